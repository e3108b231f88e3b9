-- Printed by wip/xprint.py of this repo (a wrapper of the session's own round the print).
import Derived.Test.YtgnhangjacdfbaaXx0
import Derived.Test.YtgnhangjacdfbaaXx2
import Derived.Test.YtgnhangjacdfbaaXx4
import Derived.Test.YtgnhangjacdfbaaXx9
import Derived.Test.YtgnhangjacdfbaaXx11
import Derived.Test.YtgnhangjacdfbaaXx12
import Derived.Test.YtgnhangjacdfbaaXx24
import Derived.Test.YtgnhangjacdfbaaXx57
namespace Go.Proofs.Ytgnhangjacdfbaa.X
open Go.RowKit Go.Proofs.YtgnhangjacdfbaaW.PrintWords Go.Proofs.YtgnhangjacdfbaaW.PrintLast Go.Proofs.YtgnhangjacdfbaaW.PrintMore
attribute [local go_sem] max2_int min2_int max_two min_two max_three min_three max_four min_four   -- for this text's walks alone
set_option linter.unusedVariables false
set_option linter.unusedSimpArgs false

/-! ### sapperlaw12_SaisInducing: function 10 -/
mutual
def sapperlaw12_SaisInducing.j0 : Nat → Int → List Int → Bool → Option (Bool)
 | 0, _, _, _ => none
 | k + 1, x3, x4, x25 => if x25 = true then ((sapperlaw12_awake.f k).bind fun t824 => (some t824)) else ((sais_Array.f k x3 x4).bind fun bt825 => ((sais_Types.f k x4).bind fun t829 => ((sais_Lms.f k x4).bind fun t832 => (if bt825.2 = 0 then (if (t829.length : Int) = (x4.length : Int) then (sapperlaw12_SaisInducing.j1 k x3 x4 bt825.1 t829 t832 ((bt825.1.length : Int) != (x4.length : Int))) else (sapperlaw12_SaisInducing.j1 k x3 x4 bt825.1 t829 t832 true)) else (sapperlaw12_SaisInducing.j1 k x3 x4 bt825.1 t829 t832 true)))))
def sapperlaw12_SaisInducing.j1 : Nat → Int → List Int → List Int → List Bool → List Int → Bool → Option (Bool)
 | 0, _, _, _, _, _, _ => none
 | k + 1, x3, x4, x5, x7, x8, x52 => if x52 = true then (some false) else (sapperlaw12_SaisInducing.l0 k x3 x4 x5 x7 x8 ([] : List Int) 0)
def sapperlaw12_SaisInducing.l0 : Nat → Int → List Int → List Int → List Bool → List Int → List Int → Int → Option (Bool)
 | 0, _, _, _, _, _, _, _ => none
 | k + 1, x3, x4, x5, x7, x8, x9, x10 => if x10 < (x5.length : Int) then (if 0 ≤ x10 then (if (rd x5 x10) > 0 then (if (rd x5 x10) < (x4.length : Int) then (if 0 ≤ (rd x5 x10) then (if (rd x5 x10) < (x7.length : Int) then (if rdOf false x7 (rd x5 x10) = true then (if 0 ≤ (wrap64 ((rd x5 x10) - 1)) then (if (wrap64 ((rd x5 x10) - 1)) < (x7.length : Int) then (if (rdOf false x7 (wrap64 ((rd x5 x10) - 1)) = true) then (sapperlaw12_SaisInducing.l0 k x3 x4 x5 x7 x8 x9 (wrap64 (x10 + 1))) else (if x9.length < 17592186044416 then (sapperlaw12_SaisInducing.l0 k x3 x4 x5 x7 x8 (x9 ++ [rd x5 x10]) (wrap64 (x10 + 1))) else (none))) else (none)) else (none)) else (sapperlaw12_SaisInducing.l0 k x3 x4 x5 x7 x8 x9 (wrap64 (x10 + 1)))) else (none)) else (none)) else (sapperlaw12_SaisInducing.l0 k x3 x4 x5 x7 x8 x9 (wrap64 (x10 + 1)))) else (sapperlaw12_SaisInducing.l0 k x3 x4 x5 x7 x8 x9 (wrap64 (x10 + 1)))) else (none)) else ((sais_Induce.f k x3 x4 x9).bind fun bt841 => (if bt841.2 = 0 then (if (x9.length : Int) = (x8.length : Int) then ((sapperlaw12_Same.f k bt841.1 x5).bind fun t845 => (some t845)) else (some false)) else (some false)))
end
def sapperlaw12_SaisInducing.f (k : Nat) (l0 : List Int) : Option (Bool) := (sapperlaw12_words.f k l0).bind fun bt819 => ((sapperlaw12_awake.f k).bind fun t823 => (if t823 = true then (sapperlaw12_SaisInducing.j0 k bt819.1 bt819.2 (decide ((l0.length : Int) > 16777216))) else (sapperlaw12_SaisInducing.j0 k bt819.1 bt819.2 true)))
theorem sapperlaw12_SaisInducing.mono_l : ∀ k, (∀ y0 y1 y2, LeO (sapperlaw12_SaisInducing.j0 k y0 y1 y2) (sapperlaw12_SaisInducing.j0 (k + 1) y0 y1 y2)) ∧ (∀ y0 y1 y2 y3 y4 y5, LeO (sapperlaw12_SaisInducing.j1 k y0 y1 y2 y3 y4 y5) (sapperlaw12_SaisInducing.j1 (k + 1) y0 y1 y2 y3 y4 y5)) ∧ (∀ y0 y1 y2 y3 y4 y5 y6, LeO (sapperlaw12_SaisInducing.l0 k y0 y1 y2 y3 y4 y5 y6) (sapperlaw12_SaisInducing.l0 (k + 1) y0 y1 y2 y3 y4 y5 y6))
 | 0 => ⟨fun _ _ _ r h => by simp [sapperlaw12_SaisInducing.j0] at h, fun _ _ _ _ _ _ r h => by simp [sapperlaw12_SaisInducing.j1] at h, fun _ _ _ _ _ _ _ r h => by simp [sapperlaw12_SaisInducing.l0] at h⟩
 | k + 1 => by
  obtain ⟨ih0, ih1, ih2⟩ := sapperlaw12_SaisInducing.mono_l k
  refine ⟨?_, ?_, ?_⟩
  ·intro y0 y1 y2
   unfold sapperlaw12_SaisInducing.j0
   repeat' first
   | (with_reducible exact ih0 _ _ _)
   | (with_reducible exact ih1 _ _ _ _ _ _)
   | (with_reducible exact ih2 _ _ _ _ _ _ _)
   | (with_reducible exact sais_Array.mono _ _ _)
   | (with_reducible exact sais_Induce.mono _ _ _ _)
   | (with_reducible exact sais_Lms.mono _ _)
   | (with_reducible exact sais_Types.mono _ _)
   | (with_reducible exact sapperlaw12_Same.mono _ _ _)
   | (with_reducible exact sapperlaw12_awake.mono _)
   | (with_reducible exact sapperlaw12_words.mono _ _)
   | (with_reducible exact LeO.refl _)
   | (with_reducible exact LeO.none _)
   | (with_reducible refine LeO.ite ?_ ?_)
   | (with_reducible refine LeO.bind ?_ (fun _ => ?_))
   | exact ih0 _ _ _
   | exact ih1 _ _ _ _ _ _
   | exact ih2 _ _ _ _ _ _ _
   | exact sais_Array.mono _ _ _
   | exact sais_Induce.mono _ _ _ _
   | exact sais_Lms.mono _ _
   | exact sais_Types.mono _ _
   | exact sapperlaw12_Same.mono _ _ _
   | exact sapperlaw12_awake.mono _
   | exact sapperlaw12_words.mono _ _
   | exact LeO.none _
   | refine LeO.ite ?_ ?_
   | refine LeO.bind ?_ (fun _ => ?_)
  ·intro y0 y1 y2 y3 y4 y5
   unfold sapperlaw12_SaisInducing.j1
   repeat' first
   | (with_reducible exact ih0 _ _ _)
   | (with_reducible exact ih1 _ _ _ _ _ _)
   | (with_reducible exact ih2 _ _ _ _ _ _ _)
   | (with_reducible exact sais_Array.mono _ _ _)
   | (with_reducible exact sais_Induce.mono _ _ _ _)
   | (with_reducible exact sais_Lms.mono _ _)
   | (with_reducible exact sais_Types.mono _ _)
   | (with_reducible exact sapperlaw12_Same.mono _ _ _)
   | (with_reducible exact sapperlaw12_awake.mono _)
   | (with_reducible exact sapperlaw12_words.mono _ _)
   | (with_reducible exact LeO.refl _)
   | (with_reducible exact LeO.none _)
   | (with_reducible refine LeO.ite ?_ ?_)
   | (with_reducible refine LeO.bind ?_ (fun _ => ?_))
   | exact ih0 _ _ _
   | exact ih1 _ _ _ _ _ _
   | exact ih2 _ _ _ _ _ _ _
   | exact sais_Array.mono _ _ _
   | exact sais_Induce.mono _ _ _ _
   | exact sais_Lms.mono _ _
   | exact sais_Types.mono _ _
   | exact sapperlaw12_Same.mono _ _ _
   | exact sapperlaw12_awake.mono _
   | exact sapperlaw12_words.mono _ _
   | exact LeO.none _
   | refine LeO.ite ?_ ?_
   | refine LeO.bind ?_ (fun _ => ?_)
  ·intro y0 y1 y2 y3 y4 y5 y6
   unfold sapperlaw12_SaisInducing.l0
   repeat' first
   | (with_reducible exact ih0 _ _ _)
   | (with_reducible exact ih1 _ _ _ _ _ _)
   | (with_reducible exact ih2 _ _ _ _ _ _ _)
   | (with_reducible exact sais_Array.mono _ _ _)
   | (with_reducible exact sais_Induce.mono _ _ _ _)
   | (with_reducible exact sais_Lms.mono _ _)
   | (with_reducible exact sais_Types.mono _ _)
   | (with_reducible exact sapperlaw12_Same.mono _ _ _)
   | (with_reducible exact sapperlaw12_awake.mono _)
   | (with_reducible exact sapperlaw12_words.mono _ _)
   | (with_reducible exact LeO.refl _)
   | (with_reducible exact LeO.none _)
   | (with_reducible refine LeO.ite ?_ ?_)
   | (with_reducible refine LeO.bind ?_ (fun _ => ?_))
   | exact ih0 _ _ _
   | exact ih1 _ _ _ _ _ _
   | exact ih2 _ _ _ _ _ _ _
   | exact sais_Array.mono _ _ _
   | exact sais_Induce.mono _ _ _ _
   | exact sais_Lms.mono _ _
   | exact sais_Types.mono _ _
   | exact sapperlaw12_Same.mono _ _ _
   | exact sapperlaw12_awake.mono _
   | exact sapperlaw12_words.mono _ _
   | exact LeO.none _
   | refine LeO.ite ?_ ?_
   | refine LeO.bind ?_ (fun _ => ?_)
theorem sapperlaw12_SaisInducing.mono : ∀ a0 k, LeO (sapperlaw12_SaisInducing.f k a0) (sapperlaw12_SaisInducing.f (k + 1) a0) := by
 intro a0 k
 obtain ⟨ih0, ih1, ih2⟩ := sapperlaw12_SaisInducing.mono_l k
 unfold sapperlaw12_SaisInducing.f
 repeat' first
   | (with_reducible exact ih0 _ _ _)
   | (with_reducible exact ih1 _ _ _ _ _ _)
   | (with_reducible exact ih2 _ _ _ _ _ _ _)
   | (with_reducible exact sais_Array.mono _ _ _)
   | (with_reducible exact sais_Induce.mono _ _ _ _)
   | (with_reducible exact sais_Lms.mono _ _)
   | (with_reducible exact sais_Types.mono _ _)
   | (with_reducible exact sapperlaw12_Same.mono _ _ _)
   | (with_reducible exact sapperlaw12_awake.mono _)
   | (with_reducible exact sapperlaw12_words.mono _ _)
   | (with_reducible exact LeO.refl _)
   | (with_reducible exact LeO.none _)
   | (with_reducible refine LeO.ite ?_ ?_)
   | (with_reducible refine LeO.bind ?_ (fun _ => ?_))
   | exact ih0 _ _ _
   | exact ih1 _ _ _ _ _ _
   | exact ih2 _ _ _ _ _ _ _
   | exact sais_Array.mono _ _ _
   | exact sais_Induce.mono _ _ _ _
   | exact sais_Lms.mono _ _
   | exact sais_Types.mono _ _
   | exact sapperlaw12_Same.mono _ _ _
   | exact sapperlaw12_awake.mono _
   | exact sapperlaw12_words.mono _ _
   | exact LeO.none _
   | refine LeO.ite ?_ ?_
   | refine LeO.bind ?_ (fun _ => ?_)
set_option maxHeartbeats 8000000 in
set_option maxRecDepth 100000 in
theorem sapperlaw12_SaisInducing.calls (k : Nat) (A0 : Option Addr) (c0 : Nat) (l0 : List Int) (r : Bool) (w : World) (hr0 : Kd.C (Kd.int .u8) w A0 l0.length l0) (hc0 : l0.length ≤ c0) (h : sapperlaw12_SaisInducing.f k l0 = some r) :
  Calls Try.prog 10 #[.slice A0 l0.length c0] w fun e w' => e = .returned (.bool r) ∧ Below w.heap.size w w' := by
 have HR0 := Aside0.mk hr0
 have HC0 := Aside0.mk hc0
 clear hr0 hc0
 have HB := Aside0.mk (Below.refl w.heap.size w)
 have H : ((sapperlaw12_words.f k l0).bind fun bt819 => ((sapperlaw12_awake.f k).bind fun t823 => (if t823 = true then (sapperlaw12_SaisInducing.j0 k bt819.1 bt819.2 (decide ((l0.length : Int) > 16777216))) else (sapperlaw12_SaisInducing.j0 k bt819.1 bt819.2 true)))) = some r := h
 clear h
 replace H := Option.bind_eq_some_iff.mp H
 obtain ⟨⟨t819, t820⟩, A20, H⟩ := H
 replace H : ((sapperlaw12_awake.f k).bind fun t823 => (if t823 = true then (sapperlaw12_SaisInducing.j0 k t819 t820 (decide ((l0.length : Int) > 16777216))) else (sapperlaw12_SaisInducing.j0 k t819 t820 true))) = some r := H
 have A2 := Aside0.mk A20
 clear A20
 have HC3 := Aside0.mk H
 clear H
 go_enter Try.func10, Try.ntmps10
 go_upto_region 2 with (first | ((with_reducible refine gate_callee (f := 24) rfl ?_); refine goesL_ (some 16) rfl rfl Try.func24 (by kernel_rfl) rfl #[.slice A0 l0.length c0] rfl (by (try simp only [List.map_toArray, List.map_cons, List.map_nil]); first | done | rfl | (simp only [List.length_drop, List.length_take]; rfl)) ?_; (with_reducible refine (sapperlaw12_words.calls k _ _ l0 t819 t820 _ ?side1 ?side2 A2.out).mono ?_); (case side1 => repeat (first | exact HR0.out | (with_reducible refine Kd.C_alloc ?_ _) | (with_reducible refine Kd.C_drewN ?_ _) | (with_reducible refine Kd.C_drew ?_))); (case side2 => exact HC0.out); rintro e w4 ⟨v821, rfl, ho0, hb⟩; refine ⟨_, rfl, ?_⟩; have n0_ := Aside0.mk (Kd.R_lower ho0 (below_size (by repeat (first | (with_reducible first | exact HB.out | apply below_alloc | apply pw_below_drewN | apply below_drew1) | exact HB.out)))); have n1_ := Aside0.mk (below_step (by repeat (first | (with_reducible first | exact HB.out | apply below_alloc | apply pw_below_drewN | apply below_drew1) | exact HB.out)) hb); clear HB; have HO822 := n0_; have HB := n1_; clear n0_ n1_; (try clear hb); (try clear hb2); (try clear hk); (try clear hi); (try clear ho0)))
 (try simp only [Act.put, List.setIfInBounds_toArray, List.set_cons_zero, List.set_cons_succ])
 go_cut [25] (fun v25 wc => ∃ (kq : Nat) (x25_2 : Bool), v25 = .bool x25_2 ∧ Aside0 (sapperlaw12_SaisInducing.j0 kq t819 t820 x25_2 = some r) ∧ Aside0 (kq ≤ k) ∧ Aside0 (Kd.R (Kd.int .i64) 3 wc w.heap.size (fun _ => True) v821 t820) ∧ Aside0 (Below w.heap.size w wc))
 case first =>
  have H := HC3.out
  clear HC3
  replace H := Option.bind_eq_some_iff.mp H
  obtain ⟨t823, A50, H⟩ := H
  replace H : (if t823 = true then (sapperlaw12_SaisInducing.j0 k t819 t820 (decide ((l0.length : Int) > 16777216))) else (sapperlaw12_SaisInducing.j0 k t819 t820 true)) = some r := H
  have A5 := Aside0.mk A50
  clear A50
  by_cases c6 : t823 = true
  ·subst c6
   have H1 : (sapperlaw12_SaisInducing.j0 k t819 t820 (decide ((l0.length : Int) > 16777216))) = some r := by rw [if_pos rfl] at H; exact H
   clear H
   have H := H1
   clear H1
   have H' := Aside0.mk H
   clear H
   go_wp2_with (first | ((with_reducible refine gate_callee (f := 15) rfl ?_); refine goesL_ (some 19) rfl rfl Try.func15 (by kernel_rfl) rfl #[] rfl (by (try simp only [List.map_toArray, List.map_cons, List.map_nil]); first | done | rfl | (simp only [List.length_drop, List.length_take]; rfl)) ?_; (with_reducible refine (sapperlaw12_awake.calls k  true _ A5.out).mono ?_); rintro e w7 ⟨rfl, hb⟩; refine ⟨_, rfl, ?_⟩; have n0_ := Aside0.mk (Kd.R_below (by (with_reducible repeat (first | apply Kd.R_alloc | apply Kd.R_drewN | apply Kd.R_drew)); exact HO822.out) hb); have n1_ := Aside0.mk (below_step (by repeat (first | (with_reducible first | exact HB.out | apply below_alloc | apply pw_below_drewN | apply below_drew1) | exact HB.out)) hb); clear HO822; clear HB; have HO822 := n0_; have HB := n1_; clear n0_ n1_; (try clear hb); (try clear hb2); (try clear hk); (try clear hi)))
   go_meet
   case rel => exact ⟨_, (decide ((l0.length : Int) > 16777216)), (by first | rfl | (simp; done) | (simp [*]; done)), H', ⟨by first | omega | exact Nat.le_refl _⟩, ⟨by (with_reducible repeat (first | apply Kd.R_alloc | apply Kd.R_drewN | apply Kd.R_drew)); exact HO822.out⟩, ⟨by repeat (first | (with_reducible first | exact HB.out | apply below_alloc | apply pw_below_drewN | apply below_drew1) | exact HB.out)⟩⟩
  ·replace c6 := Bool.eq_false_iff.mpr c6
   subst c6
   have H1 : (sapperlaw12_SaisInducing.j0 k t819 t820 true) = some r := by rw [if_neg (show ¬ (false = true) by decide)] at H; exact H
   clear H
   have H := H1
   clear H1
   have H' := Aside0.mk H
   clear H
   go_wp2_with (first | ((with_reducible refine gate_callee (f := 15) rfl ?_); refine goesL_ (some 19) rfl rfl Try.func15 (by kernel_rfl) rfl #[] rfl (by (try simp only [List.map_toArray, List.map_cons, List.map_nil]); first | done | rfl | (simp only [List.length_drop, List.length_take]; rfl)) ?_; (with_reducible refine (sapperlaw12_awake.calls k  false _ A5.out).mono ?_); rintro e w8 ⟨rfl, hb⟩; refine ⟨_, rfl, ?_⟩; have n0_ := Aside0.mk (Kd.R_below (by (with_reducible repeat (first | apply Kd.R_alloc | apply Kd.R_drewN | apply Kd.R_drew)); exact HO822.out) hb); have n1_ := Aside0.mk (below_step (by repeat (first | (with_reducible first | exact HB.out | apply below_alloc | apply pw_below_drewN | apply below_drew1) | exact HB.out)) hb); clear HO822; clear HB; have HO822 := n0_; have HB := n1_; clear n0_ n1_; (try clear hb); (try clear hb2); (try clear hk); (try clear hi)))
   go_meet
   case rel => exact ⟨_, (true), (by first | rfl | (simp; done) | (simp [*]; done)), H', ⟨by first | omega | exact Nat.le_refl _⟩, ⟨by (with_reducible repeat (first | apply Kd.R_alloc | apply Kd.R_drewN | apply Kd.R_drew)); exact HO822.out⟩, ⟨by repeat (first | (with_reducible first | exact HB.out | apply below_alloc | apply pw_below_drewN | apply below_drew1) | exact HB.out)⟩⟩
 case rest =>
  clear HC3
  try clear c1
  try clear c2
  try clear p2
  try clear c6
  obtain ⟨kq, x25_2, rfl, HA, HJ2, HO_4, HB⟩ := hcut
  cases kq with
  | zero => exact absurd HA.out (by simp [sapperlaw12_SaisInducing.j0])
  | succ kj2 =>
   have H := HA.out
   clear HA
   simp only [sapperlaw12_SaisInducing.j0] at H
   by_cases c9 : x25_2 = true
   ·subst c9
    have H1 : ((sapperlaw12_awake.f kj2).bind fun t824 => (some t824)) = some r := by rw [if_pos rfl] at H; exact H
    clear H
    have H := H1
    clear H1
    replace H := Option.bind_eq_some_iff.mp H
    obtain ⟨t824, A100, H⟩ := H
    replace H : (some t824) = some r := H
    have A10 := Aside0.mk A100
    clear A100
    obtain rfl := Option.some.inj H
    go_wp2_with (first | ((with_reducible refine gate_callee (f := 15) rfl ?_); refine goesL_ (some 26) rfl rfl Try.func15 (by kernel_rfl) rfl #[] rfl (by (try simp only [List.map_toArray, List.map_cons, List.map_nil]); first | done | rfl | (simp only [List.length_drop, List.length_take]; rfl)) ?_; (with_reducible refine (sapperlaw12_awake.calls kj2  t824 _ A10.out).mono ?_); rintro e w11 ⟨rfl, hb⟩; refine ⟨_, rfl, ?_⟩; have n0_ := Aside0.mk (Kd.R_below (by (with_reducible repeat (first | apply Kd.R_alloc | apply Kd.R_drewN | apply Kd.R_drew)); exact HO_4.out) hb); have n1_ := Aside0.mk (below_step (by repeat (first | (with_reducible first | exact HB.out | apply below_alloc | apply pw_below_drewN | apply below_drew1) | exact HB.out)) hb); clear HO_4; clear HB; have HO_4 := n0_; have HB := n1_; clear n0_ n1_; (try clear hb); (try clear hb2); (try clear hk); (try clear hi)))
    go_ret
    exact ⟨by first | rfl | (simp [errW_none, errW_some] <;> rfl) | (simp [*, errW_none, errW_some] <;> rfl), by repeat (first | (with_reducible first | exact HB.out | apply below_alloc | apply pw_below_drewN | apply below_drew1) | exact HB.out)⟩
   ·replace c9 := Bool.eq_false_iff.mpr c9
    subst c9
    have H1 : ((sais_Array.f kj2 t819 t820).bind fun bt825 => ((sais_Types.f kj2 t820).bind fun t829 => ((sais_Lms.f kj2 t820).bind fun t832 => (if bt825.2 = 0 then (if (t829.length : Int) = (t820.length : Int) then (sapperlaw12_SaisInducing.j1 kj2 t819 t820 bt825.1 t829 t832 ((bt825.1.length : Int) != (t820.length : Int))) else (sapperlaw12_SaisInducing.j1 kj2 t819 t820 bt825.1 t829 t832 true)) else (sapperlaw12_SaisInducing.j1 kj2 t819 t820 bt825.1 t829 t832 true))))) = some r := by rw [if_neg (show ¬ (false = true) by decide)] at H; exact H
    clear H
    have H := H1
    clear H1
    replace H := Option.bind_eq_some_iff.mp H
    obtain ⟨⟨t825, t826⟩, A120, H⟩ := H
    replace H : ((sais_Types.f kj2 t820).bind fun t829 => ((sais_Lms.f kj2 t820).bind fun t832 => (if t826 = 0 then (if (t829.length : Int) = (t820.length : Int) then (sapperlaw12_SaisInducing.j1 kj2 t819 t820 t825 t829 t832 ((t825.length : Int) != (t820.length : Int))) else (sapperlaw12_SaisInducing.j1 kj2 t819 t820 t825 t829 t832 true)) else (sapperlaw12_SaisInducing.j1 kj2 t819 t820 t825 t829 t832 true)))) = some r := H
    have A12 := Aside0.mk A120
    clear A120
    replace H := Option.bind_eq_some_iff.mp H
    obtain ⟨t829, A130, H⟩ := H
    replace H : ((sais_Lms.f kj2 t820).bind fun t832 => (if t826 = 0 then (if (t829.length : Int) = (t820.length : Int) then (sapperlaw12_SaisInducing.j1 kj2 t819 t820 t825 t829 t832 ((t825.length : Int) != (t820.length : Int))) else (sapperlaw12_SaisInducing.j1 kj2 t819 t820 t825 t829 t832 true)) else (sapperlaw12_SaisInducing.j1 kj2 t819 t820 t825 t829 t832 true))) = some r := H
    have A13 := Aside0.mk A130
    clear A130
    replace H := Option.bind_eq_some_iff.mp H
    obtain ⟨t832, A140, H⟩ := H
    replace H : (if t826 = 0 then (if (t829.length : Int) = (t820.length : Int) then (sapperlaw12_SaisInducing.j1 kj2 t819 t820 t825 t829 t832 ((t825.length : Int) != (t820.length : Int))) else (sapperlaw12_SaisInducing.j1 kj2 t819 t820 t825 t829 t832 true)) else (sapperlaw12_SaisInducing.j1 kj2 t819 t820 t825 t829 t832 true)) = some r := H
    have A14 := Aside0.mk A140
    clear A140
    have HC15 := Aside0.mk H
    clear H
    obtain ⟨Ao16, co16, eo16⟩ := Kd.R_slice HO_4.out
    subst eo16
    go_upto_region 6 with (first | ((with_reducible refine gate_callee (f := 13) rfl ?_); refine goesL_ (some 30) rfl rfl Try.func13 (by kernel_rfl) rfl #[.int .i64 t819, .slice Ao16 t820.length co16] rfl (by (try simp only [List.map_toArray, List.map_cons, List.map_nil]); first | done | rfl | (simp only [List.length_drop, List.length_take]; rfl)) ?_; (with_reducible refine (sais_Array.calls kj2 t819 _ _ t820 t825 t826 _ ?side1 ?side2 A12.out).mono ?_); (case side1 => repeat (first | exact (Kd.R_reads' HO_4.out).2.2 | (with_reducible refine Kd.C_alloc ?_ _) | (with_reducible refine Kd.C_drewN ?_ _) | (with_reducible refine Kd.C_drew ?_))); (case side2 => exact (Kd.R_reads' HO_4.out).2.1); rintro e w17 ⟨v827, rfl, ho0, hb⟩; refine ⟨_, rfl, ?_⟩; have n0_ := Aside0.mk (Kd.R_elder' (by (with_reducible repeat (first | apply Kd.R_alloc | apply Kd.R_drewN | apply Kd.R_drew)); exact HO_4.out) (Kd.R_base ho0) hb); have n1_ := Aside0.mk (Kd.R_lower (Kd.R_new' ho0 (Kd.R_lt (by (with_reducible repeat (first | apply Kd.R_alloc | apply Kd.R_drewN | apply Kd.R_drew)); exact HO_4.out))) (below_size (by repeat (first | (with_reducible first | exact HB.out | apply below_alloc | apply pw_below_drewN | apply below_drew1) | exact HB.out)))); have n2_ := Aside0.mk (below_step (by repeat (first | (with_reducible first | exact HB.out | apply below_alloc | apply pw_below_drewN | apply below_drew1) | exact HB.out)) hb); clear HO_4; clear HB; have HO_4 := n0_; have HO828 := n1_; have HB := n2_; clear n0_ n1_ n2_; (try clear hb); (try clear hb2); (try clear hk); (try clear hi); (try clear ho0)) | ((with_reducible refine gate_callee (f := 20) rfl ?_); refine goesL_ (some 34) rfl rfl Try.func20 (by kernel_rfl) rfl #[.slice Ao16 t820.length co16] rfl (by (try simp only [List.map_toArray, List.map_cons, List.map_nil]); first | done | rfl | (simp only [List.length_drop, List.length_take]; rfl)) ?_; (with_reducible refine (sais_Types.calls kj2 _ _ t820 t829 _ ?side1 ?side2 A13.out).mono ?_); (case side1 => repeat (first | exact (Kd.R_reads' HO_4.out).2.2 | (with_reducible refine Kd.C_alloc ?_ _) | (with_reducible refine Kd.C_drewN ?_ _) | (with_reducible refine Kd.C_drew ?_))); (case side2 => exact (Kd.R_reads' HO_4.out).2.1); rintro e w18 ⟨v830, rfl, ho0, hb⟩; refine ⟨_, rfl, ?_⟩; have n0_ := Aside0.mk (Kd.R_below (by (with_reducible repeat (first | apply Kd.R_alloc | apply Kd.R_drewN | apply Kd.R_drew)); exact HO_4.out) hb); have n1_ := Aside0.mk (Kd.R_below (by (with_reducible repeat (first | apply Kd.R_alloc | apply Kd.R_drewN | apply Kd.R_drew)); exact HO828.out) hb); have n2_ := Aside0.mk (Kd.R_lower ho0 (below_size (by repeat (first | (with_reducible first | exact HB.out | apply below_alloc | apply pw_below_drewN | apply below_drew1) | exact HB.out)))); have n3_ := Aside0.mk (below_step (by repeat (first | (with_reducible first | exact HB.out | apply below_alloc | apply pw_below_drewN | apply below_drew1) | exact HB.out)) hb); clear HO_4; clear HO828; clear HB; have HO_4 := n0_; have HO828 := n1_; have HO831 := n2_; have HB := n3_; clear n0_ n1_ n2_ n3_; (try clear hb); (try clear hb2); (try clear hk); (try clear hi); (try clear ho0)) | ((with_reducible refine gate_callee (f := 22) rfl ?_); refine goesL_ (some 36) rfl rfl Try.func22 (by kernel_rfl) rfl #[.slice Ao16 t820.length co16] rfl (by (try simp only [List.map_toArray, List.map_cons, List.map_nil]); first | done | rfl | (simp only [List.length_drop, List.length_take]; rfl)) ?_; (with_reducible refine (sais_Lms.calls kj2 _ _ t820 t832 _ ?side1 ?side2 A14.out).mono ?_); (case side1 => repeat (first | exact (Kd.R_reads' HO_4.out).2.2 | (with_reducible refine Kd.C_alloc ?_ _) | (with_reducible refine Kd.C_drewN ?_ _) | (with_reducible refine Kd.C_drew ?_))); (case side2 => exact (Kd.R_reads' HO_4.out).2.1); rintro e w19 ⟨v833, rfl, ho0, hb⟩; refine ⟨_, rfl, ?_⟩; have n0_ := Aside0.mk (Kd.R_elder' (by (with_reducible repeat (first | apply Kd.R_alloc | apply Kd.R_drewN | apply Kd.R_drew)); exact HO_4.out) (Kd.R_base ho0) hb); have n1_ := Aside0.mk (Kd.R_elder' (by (with_reducible repeat (first | apply Kd.R_alloc | apply Kd.R_drewN | apply Kd.R_drew)); exact HO828.out) (Kd.R_base ho0) hb); have n2_ := Aside0.mk (Kd.R_below (by (with_reducible repeat (first | apply Kd.R_alloc | apply Kd.R_drewN | apply Kd.R_drew)); exact HO831.out) hb); have n3_ := Aside0.mk (Kd.R_lower (Kd.R_new' (Kd.R_new' ho0 (Kd.R_lt (by (with_reducible repeat (first | apply Kd.R_alloc | apply Kd.R_drewN | apply Kd.R_drew)); exact HO_4.out))) (Kd.R_lt (by (with_reducible repeat (first | apply Kd.R_alloc | apply Kd.R_drewN | apply Kd.R_drew)); exact HO828.out))) (below_size (by repeat (first | (with_reducible first | exact HB.out | apply below_alloc | apply pw_below_drewN | apply below_drew1) | exact HB.out)))); have n4_ := Aside0.mk (below_step (by repeat (first | (with_reducible first | exact HB.out | apply below_alloc | apply pw_below_drewN | apply below_drew1) | exact HB.out)) hb); clear HO_4; clear HO828; clear HO831; clear HB; have HO_4 := n0_; have HO828 := n1_; have HO831 := n2_; have HO834 := n3_; have HB := n4_; clear n0_ n1_ n2_ n3_ n4_; (try clear hb); (try clear hb2); (try clear hk); (try clear hi); (try clear ho0)))
    (try simp only [Act.put, List.setIfInBounds_toArray, List.set_cons_zero, List.set_cons_succ])
    go_cut [52] (fun v52 wc => ∃ (kq : Nat) (x52_14 : Bool), v52 = .bool x52_14 ∧ Aside0 (sapperlaw12_SaisInducing.j1 kq t819 t820 t825 t829 t832 x52_14 = some r) ∧ Aside0 (kq ≤ kj2) ∧ Aside0 (Kd.R (Kd.int .i64) 3 wc w.heap.size (fun k_ => some k_ ≠ (v827 : Value).ownBlock ∧ some k_ ≠ (v833 : Value).ownBlock) (.slice Ao16 t820.length co16) t820) ∧ Aside0 (Kd.R (Kd.int .i64) 3 wc w.heap.size (fun k_ => some k_ ≠ ((.slice Ao16 t820.length co16) : Value).ownBlock ∧ some k_ ≠ (v833 : Value).ownBlock) v827 t825) ∧ Aside0 (Kd.R Kd.bool 4 wc w.heap.size (fun _ => True) v830 t829) ∧ Aside0 (Kd.R (Kd.int .i64) 3 wc w.heap.size (fun k_ => some k_ ≠ ((.slice Ao16 t820.length co16) : Value).ownBlock ∧ some k_ ≠ (v827 : Value).ownBlock) v833 t832) ∧ Aside0 (Below w.heap.size w wc))
    case first =>
     have H := HC15.out
     clear HC15
     by_cases c20 : t826 = 0
     ·rw [if_pos c20] at H
      have c20b0 : (t826 == 0) = true := beq_iff_eq.mpr c20
      have c20b1 : (t826 != 0) = false := bne_eq_false_iff_eq.mpr c20
      clear c20
      (first | rw [c20b0] | (simp only [i64_w, i32_w]; rw [c20b0]) | skip)
      by_cases c21 : (t829.length : Int) = (t820.length : Int)
      ·rw [if_pos c21] at H
       have c21b0 : ((t829.length : Int) == (t820.length : Int)) = true := beq_iff_eq.mpr c21
       have c21b1 : ((t829.length : Int) != (t820.length : Int)) = false := bne_eq_false_iff_eq.mpr c21
       have c21b2 : (t829.length == t820.length) = true := by first | simpa using c21 | (simp at c21 ⊢; omega)
       clear c21
       have H' := Aside0.mk H
       clear H
       obtain ⟨Ao22, co22, eo22⟩ := Kd.R_slice HO831.out
       subst eo22
       obtain ⟨Ao23, co23, eo23⟩ := Kd.R_slice HO828.out
       subst eo23
       go_wp2
       go_meet
       case rel => exact ⟨_, (((t825.length : Int) != (t820.length : Int))), (by first | rfl | (simp; done) | (simp [*]; done)), H', ⟨by have := HJ2.out; first | omega | exact Nat.le_refl _⟩, ⟨by (with_reducible repeat (first | apply Kd.R_alloc | apply Kd.R_drewN | apply Kd.R_drew)); exact Kd.R_mono HO_4.out (fun _ hk => ⟨hk.1.2, hk.2⟩)⟩, ⟨by (with_reducible repeat (first | apply Kd.R_alloc | apply Kd.R_drewN | apply Kd.R_drew)); exact Kd.R_mono HO828.out (fun _ hk => ⟨hk.1.2, hk.2⟩)⟩, ⟨by (with_reducible repeat (first | apply Kd.R_alloc | apply Kd.R_drewN | apply Kd.R_drew)); exact HO831.out⟩, ⟨by (with_reducible repeat (first | apply Kd.R_alloc | apply Kd.R_drewN | apply Kd.R_drew)); exact Kd.R_mono HO834.out (fun _ hk => ⟨hk.1.2, hk.2⟩)⟩, ⟨by repeat (first | (with_reducible first | exact HB.out | apply below_alloc | apply pw_below_drewN | apply below_drew1) | exact HB.out)⟩⟩
      ·rw [if_neg c21] at H
       have c21b0 : ((t829.length : Int) == (t820.length : Int)) = false := beq_eq_false_iff_ne.mpr c21
       have c21b1 : ((t829.length : Int) != (t820.length : Int)) = true := bne_iff_ne.mpr c21
       have c21b2 : (t829.length == t820.length) = false := by first | simpa using c21 | (simp at c21 ⊢; omega)
       have H' := Aside0.mk H
       clear H
       obtain ⟨Ao24, co24, eo24⟩ := Kd.R_slice HO831.out
       subst eo24
       go_wp2
       go_meet
       case rel => exact ⟨_, (true), (by first | rfl | (simp; done) | (simp [*]; done)), H', ⟨by have := HJ2.out; first | omega | exact Nat.le_refl _⟩, ⟨by (with_reducible repeat (first | apply Kd.R_alloc | apply Kd.R_drewN | apply Kd.R_drew)); exact Kd.R_mono HO_4.out (fun _ hk => ⟨hk.1.2, hk.2⟩)⟩, ⟨by (with_reducible repeat (first | apply Kd.R_alloc | apply Kd.R_drewN | apply Kd.R_drew)); exact Kd.R_mono HO828.out (fun _ hk => ⟨hk.1.2, hk.2⟩)⟩, ⟨by (with_reducible repeat (first | apply Kd.R_alloc | apply Kd.R_drewN | apply Kd.R_drew)); exact HO831.out⟩, ⟨by (with_reducible repeat (first | apply Kd.R_alloc | apply Kd.R_drewN | apply Kd.R_drew)); exact Kd.R_mono HO834.out (fun _ hk => ⟨hk.1.2, hk.2⟩)⟩, ⟨by repeat (first | (with_reducible first | exact HB.out | apply below_alloc | apply pw_below_drewN | apply below_drew1) | exact HB.out)⟩⟩
     ·rw [if_neg c20] at H
      have c20b0 : (t826 == 0) = false := beq_eq_false_iff_ne.mpr c20
      have c20b1 : (t826 != 0) = true := bne_iff_ne.mpr c20
      (first | rw [c20b0] | (simp only [i64_w, i32_w]; rw [c20b0]) | skip)
      have H' := Aside0.mk H
      clear H
      go_wp2
      go_meet
      case rel => exact ⟨_, (true), (by first | rfl | (simp; done) | (simp [*]; done)), H', ⟨by have := HJ2.out; first | omega | exact Nat.le_refl _⟩, ⟨by (with_reducible repeat (first | apply Kd.R_alloc | apply Kd.R_drewN | apply Kd.R_drew)); exact Kd.R_mono HO_4.out (fun _ hk => ⟨hk.1.2, hk.2⟩)⟩, ⟨by (with_reducible repeat (first | apply Kd.R_alloc | apply Kd.R_drewN | apply Kd.R_drew)); exact Kd.R_mono HO828.out (fun _ hk => ⟨hk.1.2, hk.2⟩)⟩, ⟨by (with_reducible repeat (first | apply Kd.R_alloc | apply Kd.R_drewN | apply Kd.R_drew)); exact HO831.out⟩, ⟨by (with_reducible repeat (first | apply Kd.R_alloc | apply Kd.R_drewN | apply Kd.R_drew)); exact Kd.R_mono HO834.out (fun _ hk => ⟨hk.1.2, hk.2⟩)⟩, ⟨by repeat (first | (with_reducible first | exact HB.out | apply below_alloc | apply pw_below_drewN | apply below_drew1) | exact HB.out)⟩⟩
    case rest =>
     clear HC15
     try clear c1
     try clear c2
     try clear p2
     try clear c6
     try clear c9
     try clear c10
     try clear c13
     try clear c15
     try clear c20
     try clear c20b0
     try clear c20b1
     try clear c21
     try clear c21b0
     try clear c21b1
     try clear c21b2
     try clear c22
     try clear c24
     try clear p2
     obtain ⟨kq, x52_14, rfl, HA, HJ14, HO_4, HO_5, HO_7, HO_8, HB⟩ := hcut
     cases kq with
     | zero => exact absurd HA.out (by simp [sapperlaw12_SaisInducing.j1])
     | succ kj14 =>
      have H := HA.out
      clear HA
      simp only [sapperlaw12_SaisInducing.j1] at H
      by_cases c25 : x52_14 = true
      ·subst c25
       have H1 : (some false) = some r := by rw [if_pos rfl] at H; exact H
       clear H
       have H := H1
       clear H1
       obtain rfl := Option.some.inj H
       go_wp2
       go_ret
       exact ⟨by first | rfl | (simp [errW_none, errW_some] <;> rfl) | (simp [*, errW_none, errW_some] <;> rfl), by repeat (first | (with_reducible first | exact HB.out | apply below_alloc | apply pw_below_drewN | apply below_drew1) | exact HB.out)⟩
      ·replace c25 := Bool.eq_false_iff.mpr c25
       subst c25
       have H1 : (sapperlaw12_SaisInducing.l0 kj14 t819 t820 t825 t829 t832 ([] : List Int) 0) = some r := by rw [if_neg (show ¬ (false = true) by decide)] at H; exact H
       clear H
       have H := H1
       clear H1
       have H' := Aside0.mk H
       clear H
       go_wp2
       go_loopg [9, 10] kj14 (fun kq v9 v10 w' => ∃ (x9_3 : List Int) (x10_3 : Int), v10 = .int .i64 x10_3 ∧ Aside0 (sapperlaw12_SaisInducing.l0 kq t819 t820 t825 t829 t832 x9_3 x10_3 = some r) ∧ Aside0 (kq ≤ kj14) ∧ Aside0 (Kd.R (Kd.int .i64) 3 w' w.heap.size (fun k_ => some k_ ≠ (v827 : Value).ownBlock ∧ some k_ ≠ (v833 : Value).ownBlock ∧ some k_ ≠ (v9 : Value).ownBlock) (.slice Ao16 t820.length co16) t820) ∧ Aside0 (Kd.R (Kd.int .i64) 3 w' w.heap.size (fun k_ => some k_ ≠ ((.slice Ao16 t820.length co16) : Value).ownBlock ∧ some k_ ≠ (v833 : Value).ownBlock ∧ some k_ ≠ (v9 : Value).ownBlock) v827 t825) ∧ Aside0 (Kd.R Kd.bool 4 w' w.heap.size (fun _ => True) v830 t829) ∧ Aside0 (Kd.R (Kd.int .i64) 3 w' w.heap.size (fun k_ => some k_ ≠ ((.slice Ao16 t820.length co16) : Value).ownBlock ∧ some k_ ≠ (v827 : Value).ownBlock ∧ some k_ ≠ (v9 : Value).ownBlock) v833 t832) ∧ Aside0 (Kd.R (Kd.int .i64) 3 w' w.heap.size (fun k_ => some k_ ≠ ((.slice Ao16 t820.length co16) : Value).ownBlock ∧ some k_ ≠ (v827 : Value).ownBlock ∧ some k_ ≠ (v833 : Value).ownBlock) v9 x9_3) ∧ Aside0 (Below w.heap.size w w'))
       case atStart => exact ⟨(([] : List Int)), (0), (by first | rfl | (simp; done) | (simp [*]; done)), H', ⟨Nat.le_refl _⟩, ⟨by (with_reducible repeat (first | apply Kd.R_alloc | apply Kd.R_drewN | apply Kd.R_drew)); exact Kd.R_mono HO_4.out (fun _ hk => ⟨hk.1, ⟨hk.2, (by simp [Value.ownBlock])⟩⟩)⟩, ⟨by (with_reducible repeat (first | apply Kd.R_alloc | apply Kd.R_drewN | apply Kd.R_drew)); exact Kd.R_mono HO_5.out (fun _ hk => ⟨hk.1, ⟨hk.2, (by simp [Value.ownBlock])⟩⟩)⟩, ⟨by (with_reducible repeat (first | apply Kd.R_alloc | apply Kd.R_drewN | apply Kd.R_drew)); exact HO_7.out⟩, ⟨by (with_reducible repeat (first | apply Kd.R_alloc | apply Kd.R_drewN | apply Kd.R_drew)); exact Kd.R_mono HO_8.out (fun _ hk => ⟨hk.1, ⟨hk.2, (by simp [Value.ownBlock])⟩⟩)⟩, ⟨by first | exact Kd.R_nil _ _ _ _ _ | exact Kd.N_nil _ _ _ _ _ | exact Kd.V_nil _ _ _ _ _ | exact Kd.Q_nil _ _ _ _ _ | exact Kd.S_nil _ _ _ _ _⟩, ⟨by repeat (first | (with_reducible first | exact HB.out | apply below_alloc | apply pw_below_drewN | apply below_drew1) | exact HB.out)⟩⟩
       case round =>
        clear H'
        try clear c1
        try clear c2
        try clear p2
        try clear c6
        try clear c9
        try clear c10
        try clear c13
        try clear c15
        try clear c20
        try clear c20b0
        try clear c20b1
        try clear c21
        try clear c21b0
        try clear c21b1
        try clear c21b2
        try clear c22
        try clear c24
        try clear c25
        try clear p2
        obtain ⟨x9_3, x10_3, rfl, HA, HK3, HO_4, HO_5, HO_7, HO_8, HO_9, HB⟩ := hrel
        cases gk with
        | zero => exact absurd HA.out (by simp [sapperlaw12_SaisInducing.l0])
        | succ k3 =>
         have H := HA.out
         clear HA
         simp only [sapperlaw12_SaisInducing.l0] at H
         by_cases c26 : x10_3 < (t825.length : Int)
         ·rw [if_pos c26] at H
          have c26b0 : decide (x10_3 < (t825.length : Int)) = true := decide_eq_true c26
          clear c26
          by_cases c27 : 0 ≤ x10_3
          ·rw [if_pos c27] at H
           have c27b0 : decide (0 ≤ x10_3) = true := decide_eq_true c27
           clear c27
           by_cases c28 : (rd t825 x10_3) > 0
           ·rw [if_pos c28] at H
            have c28b0 : decide (0 < (rd t825 x10_3)) = true := decide_eq_true c28
            clear c28
            by_cases c29 : (rd t825 x10_3) < (t820.length : Int)
            ·rw [if_pos c29] at H
             have c29b0 : decide ((rd t825 x10_3) < (t820.length : Int)) = true := decide_eq_true c29
             clear c29
             by_cases c30 : 0 ≤ (rd t825 x10_3)
             ·rw [if_pos c30] at H
              have c30b0 : decide (0 ≤ (rd t825 x10_3)) = true := decide_eq_true c30
              clear c30
              by_cases c31 : (rd t825 x10_3) < (t829.length : Int)
              ·rw [if_pos c31] at H
               have c31b0 : decide ((rd t825 x10_3) < (t829.length : Int)) = true := decide_eq_true c31
               clear c31
               obtain ⟨bq32, hbq32⟩ : ∃ b_ : Bool, b_ = (rdOf false t829 (rd t825 x10_3)) := ⟨_, rfl⟩
               replace H : (if bq32 = true then (if 0 ≤ (wrap64 ((rd t825 x10_3) - 1)) then (if (wrap64 ((rd t825 x10_3) - 1)) < (t829.length : Int) then (if (rdOf false t829 (wrap64 ((rd t825 x10_3) - 1)) = true) then (sapperlaw12_SaisInducing.l0 k3 t819 t820 t825 t829 t832 x9_3 (wrap64 (x10_3 + 1))) else (if x9_3.length < 17592186044416 then (sapperlaw12_SaisInducing.l0 k3 t819 t820 t825 t829 t832 (x9_3 ++ [rd t825 x10_3]) (wrap64 (x10_3 + 1))) else (none))) else (none)) else (none)) else (sapperlaw12_SaisInducing.l0 k3 t819 t820 t825 t829 t832 x9_3 (wrap64 (x10_3 + 1)))) = some r := by rw [← hbq32] at H; exact H
               have Nbq32 := Aside0.mk hbq32
               clear hbq32
               by_cases c33 : bq32 = true
               ·subst c33
                have H1 : (if 0 ≤ (wrap64 ((rd t825 x10_3) - 1)) then (if (wrap64 ((rd t825 x10_3) - 1)) < (t829.length : Int) then (if (rdOf false t829 (wrap64 ((rd t825 x10_3) - 1)) = true) then (sapperlaw12_SaisInducing.l0 k3 t819 t820 t825 t829 t832 x9_3 (wrap64 (x10_3 + 1))) else (if x9_3.length < 17592186044416 then (sapperlaw12_SaisInducing.l0 k3 t819 t820 t825 t829 t832 (x9_3 ++ [rd t825 x10_3]) (wrap64 (x10_3 + 1))) else (none))) else (none)) else (none)) = some r := by rw [if_pos rfl] at H; exact H
                clear H
                have H := H1
                clear H1
                obtain ⟨ji34, hji34⟩ : ∃ j_ : Int, (wrap64 ((rd t825 x10_3) - 1)) = j_ := ⟨_, rfl⟩
                replace H : (if 0 ≤ (ji34) then (if (ji34) < (t829.length : Int) then (if (rdOf false t829 (ji34) = true) then (sapperlaw12_SaisInducing.l0 k3 t819 t820 t825 t829 t832 x9_3 (wrap64 (x10_3 + 1))) else (if x9_3.length < 17592186044416 then (sapperlaw12_SaisInducing.l0 k3 t819 t820 t825 t829 t832 (x9_3 ++ [rd t825 x10_3]) (wrap64 (x10_3 + 1))) else (none))) else (none)) else (none)) = some r := by first | (rw [hji34] at H; exact H) | (simp only [hji34] at H ⊢; exact H)
                have hji34w : (IntKind.i64.wrap ((rd t825 x10_3) - 1)) = ji34 := (i64_w _).trans hji34
                by_cases c35 : 0 ≤ (ji34)
                ·rw [if_pos c35] at H
                 have c35b0 : decide (0 ≤ (ji34)) = true := decide_eq_true c35
                 clear c35
                 by_cases c36 : (ji34) < (t829.length : Int)
                 ·rw [if_pos c36] at H
                  have c36b0 : decide ((ji34) < (t829.length : Int)) = true := decide_eq_true c36
                  clear c36
                  obtain ⟨bq37, hbq37⟩ : ∃ b_ : Bool, b_ = (rdOf false t829 (ji34)) := ⟨_, rfl⟩
                  replace H : (if (bq37 = true) then (sapperlaw12_SaisInducing.l0 k3 t819 t820 t825 t829 t832 x9_3 (wrap64 (x10_3 + 1))) else (if x9_3.length < 17592186044416 then (sapperlaw12_SaisInducing.l0 k3 t819 t820 t825 t829 t832 (x9_3 ++ [rd t825 x10_3]) (wrap64 (x10_3 + 1))) else (none))) = some r := by rw [← hbq37] at H; exact H
                  have Nbq37 := Aside0.mk hbq37
                  clear hbq37
                  by_cases c38 : (bq37 = true)
                  ·subst c38
                   have H1 : (sapperlaw12_SaisInducing.l0 k3 t819 t820 t825 t829 t832 x9_3 (wrap64 (x10_3 + 1))) = some r := by rw [if_pos rfl] at H; exact H
                   clear H
                   have H := H1
                   clear H1
                   have H' := Aside0.mk H
                   clear H
                   obtain ⟨Ao39, co39, eo39⟩ := Kd.R_slice HO_5.out
                   subst eo39
                   have p835 : 0 ≤ (x10_3 : Int) := of_decide_eq_true (by first | (with_reducible assumption) | assumption)
                   have q835 : x10_3 < (t825.length : Int) := of_decide_eq_true (by first | (with_reducible assumption) | assumption)
                   obtain ⟨ad835, e835, hx835_0⟩ := Kd.at_int (Kd.R_reads' HO_5.out).2.2 x10_3 p835 q835
                   cases e835
                   replace p835 := eq_true p835
                   replace q835 := eq_true q835
                   obtain ⟨Ao40, co40, eo40⟩ := Kd.R_slice HO_7.out
                   subst eo40
                   have p836 : 0 ≤ ((rd t825 x10_3) : Int) := of_decide_eq_true (by first | (with_reducible assumption) | assumption)
                   have q836 : (rd t825 x10_3) < (t829.length : Int) := of_decide_eq_true (by first | (with_reducible assumption) | assumption)
                   obtain ⟨ad836, e836, hx836_0⟩ := Kd.at_bool (Kd.R_reads' HO_7.out).2.2 (rd t825 x10_3) p836 q836
                   (try rw [← Nbq32.out] at hx836_0)
                   (try rw [← Nbq37.out] at hx836_0)
                   cases e836
                   replace p836 := eq_true p836
                   replace q836 := eq_true q836
                   have p837 : 0 ≤ ((ji34) : Int) := of_decide_eq_true (by first | (with_reducible assumption) | assumption)
                   have q837 : (ji34) < (t829.length : Int) := of_decide_eq_true (by first | (with_reducible assumption) | assumption)
                   obtain ⟨ad837, e837, hx837_0⟩ := Kd.at_bool (Kd.R_reads' HO_7.out).2.2 (ji34) p837 q837
                   (try rw [← Nbq32.out] at hx837_0)
                   (try rw [← Nbq37.out] at hx837_0)
                   obtain rfl : ad836 = ad837 := (by injection e837)
                   replace p837 := eq_true p837
                   replace q837 := eq_true q837
                   go_wp2
                   go_roundg k3
                   case measure => have := HJ2.out; have := HJ14.out; have := HK3.out; omega
                   case rel => exact ⟨(x9_3), (wrap64 (x10_3 + 1)), (by first | rfl | (simp; done) | (simp [*]; done)), H', ⟨by have := HJ2.out; have := HJ14.out; have := HK3.out; omega⟩, ⟨by (with_reducible repeat (first | apply Kd.R_alloc | apply Kd.R_drewN | apply Kd.R_drew)); exact HO_4.out⟩, ⟨by (with_reducible repeat (first | apply Kd.R_alloc | apply Kd.R_drewN | apply Kd.R_drew)); exact HO_5.out⟩, ⟨by (with_reducible repeat (first | apply Kd.R_alloc | apply Kd.R_drewN | apply Kd.R_drew)); exact HO_7.out⟩, ⟨by (with_reducible repeat (first | apply Kd.R_alloc | apply Kd.R_drewN | apply Kd.R_drew)); exact HO_8.out⟩, ⟨by (with_reducible repeat (first | apply Kd.R_alloc | apply Kd.R_drewN | apply Kd.R_drew)); exact HO_9.out⟩, ⟨by repeat (first | (with_reducible first | exact HB.out | apply below_alloc | apply pw_below_drewN | apply below_drew1) | exact HB.out)⟩⟩
                  ·replace c38 := Bool.eq_false_iff.mpr c38
                   subst c38
                   have H1 : (if x9_3.length < 17592186044416 then (sapperlaw12_SaisInducing.l0 k3 t819 t820 t825 t829 t832 (x9_3 ++ [rd t825 x10_3]) (wrap64 (x10_3 + 1))) else (none)) = some r := by rw [if_neg (show ¬ (false = true) by decide)] at H; exact H
                   clear H
                   have H := H1
                   clear H1
                   by_cases c41 : x9_3.length < 17592186044416
                   ·rw [if_pos c41] at H
                    have LMc41 := Aside0.mk c41
                    clear c41
                    obtain ⟨y838, hy838⟩ : ∃ y_ : List Int, y_ = (x9_3 ++ [rd t825 x10_3]) := ⟨_, rfl⟩
                    replace H : (sapperlaw12_SaisInducing.l0 k3 t819 t820 t825 t829 t832 y838 (wrap64 (x10_3 + 1))) = some r := by first | (rw [hy838]; with_reducible exact H) | (have H2_ := (Option.bind_some _ _).symm.trans H; rw [hy838]; with_reducible exact H2_) | (have H2_ := (Option.bind_some _ _).symm.trans H; with_reducible exact H2_) | with_reducible exact H | (rw [hy838]; exact H) | exact H
                    have Ny838 := Aside0.mk hy838
                    clear hy838
                    have H' := Aside0.mk H
                    clear H
                    obtain ⟨Ao42, co42, eo42⟩ := Kd.R_slice HO_5.out
                    subst eo42
                    have p835 : 0 ≤ (x10_3 : Int) := of_decide_eq_true (by first | (with_reducible assumption) | assumption)
                    have q835 : x10_3 < (t825.length : Int) := of_decide_eq_true (by first | (with_reducible assumption) | assumption)
                    obtain ⟨ad835, e835, hx835_0⟩ := Kd.at_int (Kd.R_reads' HO_5.out).2.2 x10_3 p835 q835
                    cases e835
                    replace p835 := eq_true p835
                    replace q835 := eq_true q835
                    obtain ⟨Ao43, co43, eo43⟩ := Kd.R_slice HO_7.out
                    subst eo43
                    have p836 : 0 ≤ ((rd t825 x10_3) : Int) := of_decide_eq_true (by first | (with_reducible assumption) | assumption)
                    have q836 : (rd t825 x10_3) < (t829.length : Int) := of_decide_eq_true (by first | (with_reducible assumption) | assumption)
                    obtain ⟨ad836, e836, hx836_0⟩ := Kd.at_bool (Kd.R_reads' HO_7.out).2.2 (rd t825 x10_3) p836 q836
                    (try rw [← Nbq32.out] at hx836_0)
                    (try rw [← Nbq37.out] at hx836_0)
                    cases e836
                    replace p836 := eq_true p836
                    replace q836 := eq_true q836
                    have p837 : 0 ≤ ((ji34) : Int) := of_decide_eq_true (by first | (with_reducible assumption) | assumption)
                    have q837 : (ji34) < (t829.length : Int) := of_decide_eq_true (by first | (with_reducible assumption) | assumption)
                    obtain ⟨ad837, e837, hx837_0⟩ := Kd.at_bool (Kd.R_reads' HO_7.out).2.2 (ji34) p837 q837
                    (try rw [← Nbq32.out] at hx837_0)
                    (try rw [← Nbq37.out] at hx837_0)
                    obtain rfl : ad836 = ad837 := (by injection e837)
                    replace p837 := eq_true p837
                    replace q837 := eq_true q837
                    go_wp2_with (first | ((with_reducible refine gate_builtin (b := .append) (xs := #[.tmp 85, .tmp 87]) rfl ?_); (try (refine gate_guard (by rfl) ?_; dsimp only)); at_builtin; refine Kd.R_append (Kd.int .i64) (w0 := w) w.heap.size rfl (.tmp 85) (.tmp 87) 22 3 (.int .i64 0) 8 rfl Try.underlying22 info3 rfl (by decide) (by omega) u9 x9_3 (rd t825 x10_3) [.int .i64 (rd t825 x10_3)] (fun k_ => some k_ ≠ (.slice Ao16 t820.length co16 : Value).ownBlock ∧ some k_ ≠ (.slice (some ad835) t825.length co42 : Value).ownBlock ∧ some k_ ≠ (v833 : Value).ownBlock) (fun _ => False) rfl rfl ?aP (fun _ hk => hk.elim) ?aF ?aO ?aB ?aS ?aL ?_; (case aP => exact rfl); (case aB => exact (by repeat (first | (with_reducible first | exact HB.out | apply below_alloc | apply pw_below_drewN | apply below_drew1) | exact HB.out))); (case aF => exact (fun k_ hk => ⟨Kd.fresh' (Kd.R_lt (by (with_reducible repeat (first | apply Kd.R_alloc | apply Kd.R_drewN | apply Kd.R_drew)); exact HO_4.out)) k_ hk, Kd.fresh' (Kd.R_lt (by (with_reducible repeat (first | apply Kd.R_alloc | apply Kd.R_drewN | apply Kd.R_drew)); exact HO_5.out)) k_ hk, Kd.fresh' (Kd.R_lt (by (with_reducible repeat (first | apply Kd.R_alloc | apply Kd.R_drewN | apply Kd.R_drew)); exact HO_8.out)) k_ hk⟩)); (case aO => exact (by (with_reducible repeat (first | apply Kd.R_alloc | apply Kd.R_drewN | apply Kd.R_drew)); exact HO_9.out)); (case aS => exact (below_size (by repeat (first | (with_reducible first | exact HB.out | apply below_alloc | apply pw_below_drewN | apply below_drew1) | exact HB.out)))); (case aL => have := LMc41.out; omega); intro v839 w44 ho hb hg hat; rw [← Ny838.out] at ho; have n0_ := Aside0.mk (Kd.R_after (ok := (fun k_ => some k_ ≠ (.slice (some ad835) t825.length co42 : Value).ownBlock ∧ some k_ ≠ (v833 : Value).ownBlock)) (by (with_reducible repeat (first | apply Kd.R_alloc | apply Kd.R_drewN | apply Kd.R_drew)); exact Kd.R_mono HO_4.out (fun _ hk => ⟨⟨hk.1, hk.2.1⟩, hk.2.2⟩)) hg hat); have n1_ := Aside0.mk (Kd.R_after (ok := (fun k_ => some k_ ≠ (.slice Ao16 t820.length co16 : Value).ownBlock ∧ some k_ ≠ (v833 : Value).ownBlock)) (by (with_reducible repeat (first | apply Kd.R_alloc | apply Kd.R_drewN | apply Kd.R_drew)); exact Kd.R_mono HO_5.out (fun _ hk => ⟨⟨hk.1, hk.2.1⟩, hk.2.2⟩)) hg hat); have n2_ := Aside0.mk (Kd.R_over' (by (with_reducible repeat (first | apply Kd.R_alloc | apply Kd.R_drewN | apply Kd.R_drew)); exact HO_7.out) (Kd.R_typed (by (with_reducible repeat (first | apply Kd.R_alloc | apply Kd.R_drewN | apply Kd.R_drew)); exact HO_9.out)) (by decide) hg); have n3_ := Aside0.mk (Kd.R_after (ok := (fun k_ => some k_ ≠ (.slice Ao16 t820.length co16 : Value).ownBlock ∧ some k_ ≠ (.slice (some ad835) t825.length co42 : Value).ownBlock)) (by (with_reducible repeat (first | apply Kd.R_alloc | apply Kd.R_drewN | apply Kd.R_drew)); exact Kd.R_mono HO_8.out (fun _ hk => ⟨⟨hk.1, hk.2.1⟩, hk.2.2⟩)) hg hat); have n4_ := Aside0.mk (hb); have n5_ := Aside0.mk (ho); clear HO_4; clear HO_5; clear HO_7; clear HO_8; clear HB; clear HO_9; have HO_4 := n0_; have HO_5 := n1_; have HO_7 := n2_; have HO_8 := n3_; have HB := n4_; have HO840 := n5_; clear n0_ n1_ n2_ n3_ n4_ n5_; clear ho hb hg hat))
                    go_roundg k3
                    case measure => have := HJ2.out; have := HJ14.out; have := HK3.out; omega
                    case rel => exact ⟨(y838), (wrap64 (x10_3 + 1)), (by first | rfl | (simp; done) | (simp [*]; done)), H', ⟨by have := HJ2.out; have := HJ14.out; have := HK3.out; omega⟩, ⟨by (with_reducible repeat (first | apply Kd.R_alloc | apply Kd.R_drewN | apply Kd.R_drew)); exact Kd.R_mono HO_4.out (fun _ hk => ⟨hk.1.1, ⟨hk.1.2, hk.2⟩⟩)⟩, ⟨by (with_reducible repeat (first | apply Kd.R_alloc | apply Kd.R_drewN | apply Kd.R_drew)); exact Kd.R_mono HO_5.out (fun _ hk => ⟨hk.1.1, ⟨hk.1.2, hk.2⟩⟩)⟩, ⟨by (with_reducible repeat (first | apply Kd.R_alloc | apply Kd.R_drewN | apply Kd.R_drew)); exact HO_7.out⟩, ⟨by (with_reducible repeat (first | apply Kd.R_alloc | apply Kd.R_drewN | apply Kd.R_drew)); exact Kd.R_mono HO_8.out (fun _ hk => ⟨hk.1.1, ⟨hk.1.2, hk.2⟩⟩)⟩, ⟨by (with_reducible repeat (first | apply Kd.R_alloc | apply Kd.R_drewN | apply Kd.R_drew)); exact HO840.out⟩, ⟨by repeat (first | (with_reducible first | exact HB.out | apply below_alloc | apply pw_below_drewN | apply below_drew1) | exact HB.out)⟩⟩
                   ·rw [if_neg c41] at H
                    exact absurd H (by simp)
                 ·rw [if_neg c36] at H
                  exact absurd H (by simp)
                ·rw [if_neg c35] at H
                 exact absurd H (by simp)
               ·replace c33 := Bool.eq_false_iff.mpr c33
                subst c33
                have H1 : (sapperlaw12_SaisInducing.l0 k3 t819 t820 t825 t829 t832 x9_3 (wrap64 (x10_3 + 1))) = some r := by rw [if_neg (show ¬ (false = true) by decide)] at H; exact H
                clear H
                have H := H1
                clear H1
                have H' := Aside0.mk H
                clear H
                obtain ⟨Ao45, co45, eo45⟩ := Kd.R_slice HO_5.out
                subst eo45
                have p835 : 0 ≤ (x10_3 : Int) := of_decide_eq_true (by first | (with_reducible assumption) | assumption)
                have q835 : x10_3 < (t825.length : Int) := of_decide_eq_true (by first | (with_reducible assumption) | assumption)
                obtain ⟨ad835, e835, hx835_0⟩ := Kd.at_int (Kd.R_reads' HO_5.out).2.2 x10_3 p835 q835
                cases e835
                replace p835 := eq_true p835
                replace q835 := eq_true q835
                obtain ⟨Ao46, co46, eo46⟩ := Kd.R_slice HO_7.out
                subst eo46
                have p836 : 0 ≤ ((rd t825 x10_3) : Int) := of_decide_eq_true (by first | (with_reducible assumption) | assumption)
                have q836 : (rd t825 x10_3) < (t829.length : Int) := of_decide_eq_true (by first | (with_reducible assumption) | assumption)
                obtain ⟨ad836, e836, hx836_0⟩ := Kd.at_bool (Kd.R_reads' HO_7.out).2.2 (rd t825 x10_3) p836 q836
                (try rw [← Nbq32.out] at hx836_0)
                cases e836
                replace p836 := eq_true p836
                replace q836 := eq_true q836
                go_wp2
                go_roundg k3
                case measure => have := HJ2.out; have := HJ14.out; have := HK3.out; omega
                case rel => exact ⟨(x9_3), (wrap64 (x10_3 + 1)), (by first | rfl | (simp; done) | (simp [*]; done)), H', ⟨by have := HJ2.out; have := HJ14.out; have := HK3.out; omega⟩, ⟨by (with_reducible repeat (first | apply Kd.R_alloc | apply Kd.R_drewN | apply Kd.R_drew)); exact HO_4.out⟩, ⟨by (with_reducible repeat (first | apply Kd.R_alloc | apply Kd.R_drewN | apply Kd.R_drew)); exact HO_5.out⟩, ⟨by (with_reducible repeat (first | apply Kd.R_alloc | apply Kd.R_drewN | apply Kd.R_drew)); exact HO_7.out⟩, ⟨by (with_reducible repeat (first | apply Kd.R_alloc | apply Kd.R_drewN | apply Kd.R_drew)); exact HO_8.out⟩, ⟨by (with_reducible repeat (first | apply Kd.R_alloc | apply Kd.R_drewN | apply Kd.R_drew)); exact HO_9.out⟩, ⟨by repeat (first | (with_reducible first | exact HB.out | apply below_alloc | apply pw_below_drewN | apply below_drew1) | exact HB.out)⟩⟩
              ·rw [if_neg c31] at H
               exact absurd H (by simp)
             ·rw [if_neg c30] at H
              exact absurd H (by simp)
            ·rw [if_neg c29] at H
             have c29b0 : decide ((rd t825 x10_3) < (t820.length : Int)) = false := decide_eq_false c29
             clear c29
             have H' := Aside0.mk H
             clear H
             obtain ⟨Ao47, co47, eo47⟩ := Kd.R_slice HO_5.out
             subst eo47
             have p835 : 0 ≤ (x10_3 : Int) := of_decide_eq_true (by first | (with_reducible assumption) | assumption)
             have q835 : x10_3 < (t825.length : Int) := of_decide_eq_true (by first | (with_reducible assumption) | assumption)
             obtain ⟨ad835, e835, hx835_0⟩ := Kd.at_int (Kd.R_reads' HO_5.out).2.2 x10_3 p835 q835
             cases e835
             replace p835 := eq_true p835
             replace q835 := eq_true q835
             go_wp2
             go_roundg k3
             case measure => have := HJ2.out; have := HJ14.out; have := HK3.out; omega
             case rel => exact ⟨(x9_3), (wrap64 (x10_3 + 1)), (by first | rfl | (simp; done) | (simp [*]; done)), H', ⟨by have := HJ2.out; have := HJ14.out; have := HK3.out; omega⟩, ⟨by (with_reducible repeat (first | apply Kd.R_alloc | apply Kd.R_drewN | apply Kd.R_drew)); exact HO_4.out⟩, ⟨by (with_reducible repeat (first | apply Kd.R_alloc | apply Kd.R_drewN | apply Kd.R_drew)); exact HO_5.out⟩, ⟨by (with_reducible repeat (first | apply Kd.R_alloc | apply Kd.R_drewN | apply Kd.R_drew)); exact HO_7.out⟩, ⟨by (with_reducible repeat (first | apply Kd.R_alloc | apply Kd.R_drewN | apply Kd.R_drew)); exact HO_8.out⟩, ⟨by (with_reducible repeat (first | apply Kd.R_alloc | apply Kd.R_drewN | apply Kd.R_drew)); exact HO_9.out⟩, ⟨by repeat (first | (with_reducible first | exact HB.out | apply below_alloc | apply pw_below_drewN | apply below_drew1) | exact HB.out)⟩⟩
           ·rw [if_neg c28] at H
            have c28b0 : decide (0 < (rd t825 x10_3)) = false := decide_eq_false c28
            clear c28
            have H' := Aside0.mk H
            clear H
            obtain ⟨Ao48, co48, eo48⟩ := Kd.R_slice HO_5.out
            subst eo48
            have p835 : 0 ≤ (x10_3 : Int) := of_decide_eq_true (by first | (with_reducible assumption) | assumption)
            have q835 : x10_3 < (t825.length : Int) := of_decide_eq_true (by first | (with_reducible assumption) | assumption)
            obtain ⟨ad835, e835, hx835_0⟩ := Kd.at_int (Kd.R_reads' HO_5.out).2.2 x10_3 p835 q835
            cases e835
            replace p835 := eq_true p835
            replace q835 := eq_true q835
            go_wp2
            go_roundg k3
            case measure => have := HJ2.out; have := HJ14.out; have := HK3.out; omega
            case rel => exact ⟨(x9_3), (wrap64 (x10_3 + 1)), (by first | rfl | (simp; done) | (simp [*]; done)), H', ⟨by have := HJ2.out; have := HJ14.out; have := HK3.out; omega⟩, ⟨by (with_reducible repeat (first | apply Kd.R_alloc | apply Kd.R_drewN | apply Kd.R_drew)); exact HO_4.out⟩, ⟨by (with_reducible repeat (first | apply Kd.R_alloc | apply Kd.R_drewN | apply Kd.R_drew)); exact HO_5.out⟩, ⟨by (with_reducible repeat (first | apply Kd.R_alloc | apply Kd.R_drewN | apply Kd.R_drew)); exact HO_7.out⟩, ⟨by (with_reducible repeat (first | apply Kd.R_alloc | apply Kd.R_drewN | apply Kd.R_drew)); exact HO_8.out⟩, ⟨by (with_reducible repeat (first | apply Kd.R_alloc | apply Kd.R_drewN | apply Kd.R_drew)); exact HO_9.out⟩, ⟨by repeat (first | (with_reducible first | exact HB.out | apply below_alloc | apply pw_below_drewN | apply below_drew1) | exact HB.out)⟩⟩
          ·rw [if_neg c27] at H
           exact absurd H (by simp)
         ·rw [if_neg c26] at H
          have c26b0 : decide (x10_3 < (t825.length : Int)) = false := decide_eq_false c26
          clear c26
          replace H := Option.bind_eq_some_iff.mp H
          obtain ⟨⟨t841, t842⟩, A490, H⟩ := H
          replace H : (if t842 = 0 then (if (x9_3.length : Int) = (t832.length : Int) then ((sapperlaw12_Same.f k3 t841 t825).bind fun t845 => (some t845)) else (some false)) else (some false)) = some r := H
          have A49 := Aside0.mk A490
          clear A490
          by_cases c50 : t842 = 0
          ·rw [if_pos c50] at H
           have c50b0 : (t842 == 0) = true := beq_iff_eq.mpr c50
           have c50b1 : (t842 != 0) = false := bne_eq_false_iff_eq.mpr c50
           clear c50
           by_cases c51 : (x9_3.length : Int) = (t832.length : Int)
           ·rw [if_pos c51] at H
            have c51b0 : ((x9_3.length : Int) == (t832.length : Int)) = true := beq_iff_eq.mpr c51
            have c51b1 : ((x9_3.length : Int) != (t832.length : Int)) = false := bne_eq_false_iff_eq.mpr c51
            have c51b2 : (x9_3.length == t832.length) = true := by first | simpa using c51 | (simp at c51 ⊢; omega)
            clear c51
            replace H := Option.bind_eq_some_iff.mp H
            obtain ⟨t845, A520, H⟩ := H
            replace H : (some t845) = some r := H
            have A52 := Aside0.mk A520
            clear A520
            obtain rfl := Option.some.inj H
            obtain ⟨Ao53, co53, eo53⟩ := Kd.R_slice HO_5.out
            subst eo53
            obtain ⟨Ao54, co54, eo54⟩ := Kd.R_slice HO_9.out
            subst eo54
            go_wp2_with (first | ((with_reducible refine gate_callee (f := 29) rfl ?_); refine goesL_ (some 93) rfl rfl Try.func29 (by kernel_rfl) rfl #[.int .i64 t819, .slice Ao16 t820.length co16, .slice Ao54 x9_3.length co54] rfl (by (try simp only [List.map_toArray, List.map_cons, List.map_nil]); first | done | rfl | (simp only [List.length_drop, List.length_take]; rfl)) ?_; (with_reducible refine (sais_Induce.calls k3 t819 _ _ t820 _ _ x9_3 t841 t842 _ ?side1 ?side2 ?side3 ?side4 A49.out).mono ?_); (case side1 => repeat (first | exact (Kd.R_reads' HO_4.out).2.2 | (with_reducible refine Kd.C_alloc ?_ _) | (with_reducible refine Kd.C_drewN ?_ _) | (with_reducible refine Kd.C_drew ?_))); (case side2 => exact (Kd.R_reads' HO_4.out).2.1); (case side3 => repeat (first | exact (Kd.R_reads' HO_9.out).2.2 | (with_reducible refine Kd.C_alloc ?_ _) | (with_reducible refine Kd.C_drewN ?_ _) | (with_reducible refine Kd.C_drew ?_))); (case side4 => exact (Kd.R_reads' HO_9.out).2.1); rintro e w55 ⟨v843, rfl, ho0, hb⟩; refine ⟨_, rfl, ?_⟩; have n0_ := Aside0.mk (Kd.R_elder' (by (with_reducible repeat (first | apply Kd.R_alloc | apply Kd.R_drewN | apply Kd.R_drew)); exact HO_4.out) (Kd.R_base ho0) hb); have n1_ := Aside0.mk (Kd.R_elder' (by (with_reducible repeat (first | apply Kd.R_alloc | apply Kd.R_drewN | apply Kd.R_drew)); exact HO_5.out) (Kd.R_base ho0) hb); have n2_ := Aside0.mk (Kd.R_below (by (with_reducible repeat (first | apply Kd.R_alloc | apply Kd.R_drewN | apply Kd.R_drew)); exact HO_7.out) hb); have n3_ := Aside0.mk (Kd.R_elder' (by (with_reducible repeat (first | apply Kd.R_alloc | apply Kd.R_drewN | apply Kd.R_drew)); exact HO_8.out) (Kd.R_base ho0) hb); have n4_ := Aside0.mk (Kd.R_elder' (by (with_reducible repeat (first | apply Kd.R_alloc | apply Kd.R_drewN | apply Kd.R_drew)); exact HO_9.out) (Kd.R_base ho0) hb); have n5_ := Aside0.mk (Kd.R_lower (Kd.R_new' (Kd.R_new' (Kd.R_new' (Kd.R_new' ho0 (Kd.R_lt (by (with_reducible repeat (first | apply Kd.R_alloc | apply Kd.R_drewN | apply Kd.R_drew)); exact HO_4.out))) (Kd.R_lt (by (with_reducible repeat (first | apply Kd.R_alloc | apply Kd.R_drewN | apply Kd.R_drew)); exact HO_5.out))) (Kd.R_lt (by (with_reducible repeat (first | apply Kd.R_alloc | apply Kd.R_drewN | apply Kd.R_drew)); exact HO_8.out))) (Kd.R_lt (by (with_reducible repeat (first | apply Kd.R_alloc | apply Kd.R_drewN | apply Kd.R_drew)); exact HO_9.out))) (below_size (by repeat (first | (with_reducible first | exact HB.out | apply below_alloc | apply pw_below_drewN | apply below_drew1) | exact HB.out)))); have n6_ := Aside0.mk (below_step (by repeat (first | (with_reducible first | exact HB.out | apply below_alloc | apply pw_below_drewN | apply below_drew1) | exact HB.out)) hb); clear HO_4; clear HO_5; clear HO_7; clear HO_8; clear HO_9; clear HB; have HO_4 := n0_; have HO_5 := n1_; have HO_7 := n2_; have HO_8 := n3_; have HO_9 := n4_; have HO844 := n5_; have HB := n6_; clear n0_ n1_ n2_ n3_ n4_ n5_ n6_; (try clear hb); (try clear hb2); (try clear hk); (try clear hi); (try clear ho0); obtain ⟨Ao56, co56, eo56⟩ := Kd.R_slice HO_8.out; subst eo56; obtain ⟨Ao57, co57, eo57⟩ := Kd.R_slice HO844.out; subst eo57) | (go_at_call 16; (with_reducible refine (sapperlaw12_Same.calls k3 _ _ t841 _ _ t825 t845 _ ?side1 ?side2 ?side3 ?side4 A52.out).mono ?_); (case side1 => repeat (first | exact (Kd.R_reads' HO844.out).2.2 | (with_reducible refine Kd.C_alloc ?_ _) | (with_reducible refine Kd.C_drewN ?_ _) | (with_reducible refine Kd.C_drew ?_))); (case side2 => exact (Kd.R_reads' HO844.out).2.1); (case side3 => repeat (first | exact (Kd.R_reads' HO_5.out).2.2 | (with_reducible refine Kd.C_alloc ?_ _) | (with_reducible refine Kd.C_drewN ?_ _) | (with_reducible refine Kd.C_drew ?_))); (case side4 => exact (Kd.R_reads' HO_5.out).2.1); rintro e w' ⟨rfl, ⟨nd, rfl⟩⟩))
            go_ret
            exact ⟨by first | rfl | (simp [errW_none, errW_some] <;> rfl) | (simp [*, errW_none, errW_some] <;> rfl), by repeat (first | (with_reducible first | exact HB.out | apply below_alloc | apply pw_below_drewN | apply below_drew1) | exact HB.out)⟩
           ·rw [if_neg c51] at H
            have c51b0 : ((x9_3.length : Int) == (t832.length : Int)) = false := beq_eq_false_iff_ne.mpr c51
            have c51b1 : ((x9_3.length : Int) != (t832.length : Int)) = true := bne_iff_ne.mpr c51
            have c51b2 : (x9_3.length == t832.length) = false := by first | simpa using c51 | (simp at c51 ⊢; omega)
            obtain rfl := Option.some.inj H
            obtain ⟨Ao58, co58, eo58⟩ := Kd.R_slice HO_5.out
            subst eo58
            obtain ⟨Ao59, co59, eo59⟩ := Kd.R_slice HO_9.out
            subst eo59
            go_wp2_with (first | ((with_reducible refine gate_callee (f := 29) rfl ?_); refine goesL_ (some 93) rfl rfl Try.func29 (by kernel_rfl) rfl #[.int .i64 t819, .slice Ao16 t820.length co16, .slice Ao59 x9_3.length co59] rfl (by (try simp only [List.map_toArray, List.map_cons, List.map_nil]); first | done | rfl | (simp only [List.length_drop, List.length_take]; rfl)) ?_; (with_reducible refine (sais_Induce.calls k3 t819 _ _ t820 _ _ x9_3 t841 t842 _ ?side1 ?side2 ?side3 ?side4 A49.out).mono ?_); (case side1 => repeat (first | exact (Kd.R_reads' HO_4.out).2.2 | (with_reducible refine Kd.C_alloc ?_ _) | (with_reducible refine Kd.C_drewN ?_ _) | (with_reducible refine Kd.C_drew ?_))); (case side2 => exact (Kd.R_reads' HO_4.out).2.1); (case side3 => repeat (first | exact (Kd.R_reads' HO_9.out).2.2 | (with_reducible refine Kd.C_alloc ?_ _) | (with_reducible refine Kd.C_drewN ?_ _) | (with_reducible refine Kd.C_drew ?_))); (case side4 => exact (Kd.R_reads' HO_9.out).2.1); rintro e w60 ⟨v843, rfl, ho0, hb⟩; refine ⟨_, rfl, ?_⟩; have n0_ := Aside0.mk (Kd.R_elder' (by (with_reducible repeat (first | apply Kd.R_alloc | apply Kd.R_drewN | apply Kd.R_drew)); exact HO_4.out) (Kd.R_base ho0) hb); have n1_ := Aside0.mk (Kd.R_elder' (by (with_reducible repeat (first | apply Kd.R_alloc | apply Kd.R_drewN | apply Kd.R_drew)); exact HO_5.out) (Kd.R_base ho0) hb); have n2_ := Aside0.mk (Kd.R_below (by (with_reducible repeat (first | apply Kd.R_alloc | apply Kd.R_drewN | apply Kd.R_drew)); exact HO_7.out) hb); have n3_ := Aside0.mk (Kd.R_elder' (by (with_reducible repeat (first | apply Kd.R_alloc | apply Kd.R_drewN | apply Kd.R_drew)); exact HO_8.out) (Kd.R_base ho0) hb); have n4_ := Aside0.mk (Kd.R_elder' (by (with_reducible repeat (first | apply Kd.R_alloc | apply Kd.R_drewN | apply Kd.R_drew)); exact HO_9.out) (Kd.R_base ho0) hb); have n5_ := Aside0.mk (Kd.R_lower (Kd.R_new' (Kd.R_new' (Kd.R_new' (Kd.R_new' ho0 (Kd.R_lt (by (with_reducible repeat (first | apply Kd.R_alloc | apply Kd.R_drewN | apply Kd.R_drew)); exact HO_4.out))) (Kd.R_lt (by (with_reducible repeat (first | apply Kd.R_alloc | apply Kd.R_drewN | apply Kd.R_drew)); exact HO_5.out))) (Kd.R_lt (by (with_reducible repeat (first | apply Kd.R_alloc | apply Kd.R_drewN | apply Kd.R_drew)); exact HO_8.out))) (Kd.R_lt (by (with_reducible repeat (first | apply Kd.R_alloc | apply Kd.R_drewN | apply Kd.R_drew)); exact HO_9.out))) (below_size (by repeat (first | (with_reducible first | exact HB.out | apply below_alloc | apply pw_below_drewN | apply below_drew1) | exact HB.out)))); have n6_ := Aside0.mk (below_step (by repeat (first | (with_reducible first | exact HB.out | apply below_alloc | apply pw_below_drewN | apply below_drew1) | exact HB.out)) hb); clear HO_4; clear HO_5; clear HO_7; clear HO_8; clear HO_9; clear HB; have HO_4 := n0_; have HO_5 := n1_; have HO_7 := n2_; have HO_8 := n3_; have HO_9 := n4_; have HO844 := n5_; have HB := n6_; clear n0_ n1_ n2_ n3_ n4_ n5_ n6_; (try clear hb); (try clear hb2); (try clear hk); (try clear hi); (try clear ho0); obtain ⟨Ao61, co61, eo61⟩ := Kd.R_slice HO_8.out; subst eo61))
            go_ret
            exact ⟨by first | rfl | (simp [errW_none, errW_some] <;> rfl) | (simp [*, errW_none, errW_some] <;> rfl), by repeat (first | (with_reducible first | exact HB.out | apply below_alloc | apply pw_below_drewN | apply below_drew1) | exact HB.out)⟩
          ·rw [if_neg c50] at H
           have c50b0 : (t842 == 0) = false := beq_eq_false_iff_ne.mpr c50
           have c50b1 : (t842 != 0) = true := bne_iff_ne.mpr c50
           obtain rfl := Option.some.inj H
           obtain ⟨Ao62, co62, eo62⟩ := Kd.R_slice HO_5.out
           subst eo62
           obtain ⟨Ao63, co63, eo63⟩ := Kd.R_slice HO_9.out
           subst eo63
           go_wp2_with (first | ((with_reducible refine gate_callee (f := 29) rfl ?_); refine goesL_ (some 93) rfl rfl Try.func29 (by kernel_rfl) rfl #[.int .i64 t819, .slice Ao16 t820.length co16, .slice Ao63 x9_3.length co63] rfl (by (try simp only [List.map_toArray, List.map_cons, List.map_nil]); first | done | rfl | (simp only [List.length_drop, List.length_take]; rfl)) ?_; (with_reducible refine (sais_Induce.calls k3 t819 _ _ t820 _ _ x9_3 t841 t842 _ ?side1 ?side2 ?side3 ?side4 A49.out).mono ?_); (case side1 => repeat (first | exact (Kd.R_reads' HO_4.out).2.2 | (with_reducible refine Kd.C_alloc ?_ _) | (with_reducible refine Kd.C_drewN ?_ _) | (with_reducible refine Kd.C_drew ?_))); (case side2 => exact (Kd.R_reads' HO_4.out).2.1); (case side3 => repeat (first | exact (Kd.R_reads' HO_9.out).2.2 | (with_reducible refine Kd.C_alloc ?_ _) | (with_reducible refine Kd.C_drewN ?_ _) | (with_reducible refine Kd.C_drew ?_))); (case side4 => exact (Kd.R_reads' HO_9.out).2.1); rintro e w64 ⟨v843, rfl, ho0, hb⟩; refine ⟨_, rfl, ?_⟩; have n0_ := Aside0.mk (Kd.R_elder' (by (with_reducible repeat (first | apply Kd.R_alloc | apply Kd.R_drewN | apply Kd.R_drew)); exact HO_4.out) (Kd.R_base ho0) hb); have n1_ := Aside0.mk (Kd.R_elder' (by (with_reducible repeat (first | apply Kd.R_alloc | apply Kd.R_drewN | apply Kd.R_drew)); exact HO_5.out) (Kd.R_base ho0) hb); have n2_ := Aside0.mk (Kd.R_below (by (with_reducible repeat (first | apply Kd.R_alloc | apply Kd.R_drewN | apply Kd.R_drew)); exact HO_7.out) hb); have n3_ := Aside0.mk (Kd.R_elder' (by (with_reducible repeat (first | apply Kd.R_alloc | apply Kd.R_drewN | apply Kd.R_drew)); exact HO_8.out) (Kd.R_base ho0) hb); have n4_ := Aside0.mk (Kd.R_elder' (by (with_reducible repeat (first | apply Kd.R_alloc | apply Kd.R_drewN | apply Kd.R_drew)); exact HO_9.out) (Kd.R_base ho0) hb); have n5_ := Aside0.mk (Kd.R_lower (Kd.R_new' (Kd.R_new' (Kd.R_new' (Kd.R_new' ho0 (Kd.R_lt (by (with_reducible repeat (first | apply Kd.R_alloc | apply Kd.R_drewN | apply Kd.R_drew)); exact HO_4.out))) (Kd.R_lt (by (with_reducible repeat (first | apply Kd.R_alloc | apply Kd.R_drewN | apply Kd.R_drew)); exact HO_5.out))) (Kd.R_lt (by (with_reducible repeat (first | apply Kd.R_alloc | apply Kd.R_drewN | apply Kd.R_drew)); exact HO_8.out))) (Kd.R_lt (by (with_reducible repeat (first | apply Kd.R_alloc | apply Kd.R_drewN | apply Kd.R_drew)); exact HO_9.out))) (below_size (by repeat (first | (with_reducible first | exact HB.out | apply below_alloc | apply pw_below_drewN | apply below_drew1) | exact HB.out)))); have n6_ := Aside0.mk (below_step (by repeat (first | (with_reducible first | exact HB.out | apply below_alloc | apply pw_below_drewN | apply below_drew1) | exact HB.out)) hb); clear HO_4; clear HO_5; clear HO_7; clear HO_8; clear HO_9; clear HB; have HO_4 := n0_; have HO_5 := n1_; have HO_7 := n2_; have HO_8 := n3_; have HO_9 := n4_; have HO844 := n5_; have HB := n6_; clear n0_ n1_ n2_ n3_ n4_ n5_ n6_; (try clear hb); (try clear hb2); (try clear hk); (try clear hi); (try clear ho0)))
           go_ret
           exact ⟨by first | rfl | (simp [errW_none, errW_some] <;> rfl) | (simp [*, errW_none, errW_some] <;> rfl), by repeat (first | (with_reducible first | exact HB.out | apply below_alloc | apply pw_below_drewN | apply below_drew1) | exact HB.out)⟩

/-- THE ONE PURE STATEMENT of sapperlaw12_SaisInducing: yours. -/
def sapperlaw12_SaisInducing.Pure : Prop := ∀ (l0 : List Int), l0.length ≤ maxLen → l0.length * 1 ≤ 140737488351232 → (∀ x ∈ l0, (Lit.int .u8 x).wf = true) → ∃ k, sapperlaw12_SaisInducing.f k l0 = some true
theorem sapperlaw12_SaisInducing.walk (P : sapperlaw12_SaisInducing.Pure) (a0 : Option Addr) (len0 cap0 : Nat) (z0 : List Int) (w : World) (w0 : (a0 = none ∧ len0 = 0 ∧ cap0 = 0 ∧ z0 = []) ∨ ∃ x, a0 = some x ∧ len0 ≤ cap0 ∧ cap0 ≤ maxLen ∧ z0.length = cap0 ∧ (∀ i, i < z0.length → w.cell? (x.add i) = some (.int .u8 (z0.getD i 0))) ∧ ∀ n ∈ z0, (Lit.int .u8 n).wf = true) (y0 : len0 * 1 ≤ 140737488351232) :
  Calls Try.prog 10 #[.slice a0 len0 cap0] w fun e w' => e = .returned (.bool true) ∧ Below w.heap.size w w' := by
 obtain ⟨l0, rfl, hr0, hm0, hw0, hc0⟩ := ReadsInt.ofRowC w0
 obtain ⟨k, h⟩ := P l0 hm0 y0 hw0
 refine (sapperlaw12_SaisInducing.calls k _ _ l0 true w (Kd.C_of_reads (d := (0 : Int)) (h1 := fun _ => rfl) hr0) hc0 h).mono ?_
 rintro e w' ⟨rfl, hd⟩
 exact ⟨rfl, hd⟩

end Go.Proofs.Ytgnhangjacdfbaa.X
