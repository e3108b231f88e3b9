-- Printed by wip/xprint.py of this repo (a wrapper of the session's own round the print).
import Derived.Test.YtobknpeglagaaaaXx0
import Derived.Test.YtobknpeglagaaaaXx1
import Derived.Test.YtobknpeglagaaaaXx15
import Derived.Test.YtobknpeglagaaaaXx37
import Derived.Test.YtobknpeglagaaaaXx38
namespace Go.Proofs.Ytobknpeglagaaaa.X
open Go.RowKit Go.Proofs.YtobknpeglagaaaaW.PrintWords Go.Proofs.YtobknpeglagaaaaW.PrintLast Go.Proofs.YtobknpeglagaaaaW.PrintMore
attribute [local go_sem] ptrOf_eql ptrOf_neq ptrOf_eqg ptrOf_neg str_leq str_geq str_gtr max2_int min2_int max_two min_two max_three min_three max_four min_four   -- for this text's walks alone
set_option linter.unusedVariables false
set_option linter.unusedSimpArgs false

attribute [local go_sem high] eqA39
/-! ### sapperlaw15_ScanSelf: function 7 -/
def sapperlaw15_ScanSelf.j0 : Nat → List Int → List (S39) → List (S39) → Bool → Option (Bool)
 | 0, _, _, _, _ => none
 | k + 1, x0, x3, x5, x46 => if x46 = true then (some false) else (if (x0.length : Int) = 0 then (if (x3.length : Int) = 0 then (if (x5.length : Int) = 0 then ((sapperlaw15_lives.f k).bind fun t340 => (some t340)) else (some false)) else (some false)) else (if (x5.length : Int) = 1 then (if 0 < (x5.length : Int) then (if (!(((rd_T39 x5 0).f0) == 0) || (!(((rd_T39 x5 0).f1) == (x0.length : Int)) || (!(((rd_T39 x5 0).f2) == 0)))) = true then (some false) else (if (x0.length : Int) < 9 then (some true) else (if (x3.length : Int) = 1 then (if 0 < (x3.length : Int) then (if (((rd_T39 x3 0).f0) == (x0.length : Int) && (((rd_T39 x3 0).f1) == 0 && (((rd_T39 x3 0).f2) == 0))) = true then ((sapperlaw15_lives.f k).bind fun t343 => (some t343)) else (some false)) else (none)) else (some false)))) else (none)) else (some false)))
def sapperlaw15_ScanSelf.f (k : Nat) (l0 : List Int) : Option (Bool) := if (l0.length : Int) > 16777216 then ((sapperlaw15_lives.f k).bind fun t318 => (some t318)) else ((sapperlaw15_index.f k l0).bind fun t319 => ((scan_Steps.f k t319 l0).bind fun bt322 => ((sapperlaw15_index.f k ([] : List Int)).bind fun t326 => ((scan_Steps.f k t326 l0).bind fun bt329 => ((sapperlaw15_index.f k l0).bind fun t333 => ((scan_Steps.f k t333 ([] : List Int)).bind fun bt336 => (if bt322.2 = 0 then (if bt329.2 = 0 then (if bt336.2 = 0 then (sapperlaw15_ScanSelf.j0 k l0 bt322.1 bt329.1 (decide ((bt336.1.length : Int) > 0))) else (sapperlaw15_ScanSelf.j0 k l0 bt322.1 bt329.1 true)) else (sapperlaw15_ScanSelf.j0 k l0 bt322.1 bt329.1 true)) else (sapperlaw15_ScanSelf.j0 k l0 bt322.1 bt329.1 true))))))))
theorem sapperlaw15_ScanSelf.mono_l : ∀ k, (∀ y0 y1 y2 y3, LeO (sapperlaw15_ScanSelf.j0 k y0 y1 y2 y3) (sapperlaw15_ScanSelf.j0 (k + 1) y0 y1 y2 y3))
 | 0 => fun _ _ _ _ r h => by simp [sapperlaw15_ScanSelf.j0] at h
 | k + 1 => by
  have ih0 := sapperlaw15_ScanSelf.mono_l k
  ·intro y0 y1 y2 y3
   unfold sapperlaw15_ScanSelf.j0
   repeat' first
   | (with_reducible exact ih0 _ _ _ _)
   | (with_reducible exact sapperlaw15_index.mono _ _)
   | (with_reducible exact sapperlaw15_lives.mono _)
   | (with_reducible exact scan_Steps.mono _ _ _)
   | (with_reducible exact LeO.refl _)
   | (with_reducible exact LeO.none _)
   | (with_reducible refine LeO.ite ?_ ?_)
   | (with_reducible refine LeO.bind ?_ (fun _ => ?_))
   | exact ih0 _ _ _ _
   | exact sapperlaw15_index.mono _ _
   | exact sapperlaw15_lives.mono _
   | exact scan_Steps.mono _ _ _
   | exact LeO.none _
   | refine LeO.ite ?_ ?_
   | refine LeO.bind ?_ (fun _ => ?_)
theorem sapperlaw15_ScanSelf.mono : ∀ a0 k, LeO (sapperlaw15_ScanSelf.f k a0) (sapperlaw15_ScanSelf.f (k + 1) a0) := by
 intro a0 k
 have ih0 := sapperlaw15_ScanSelf.mono_l k
 unfold sapperlaw15_ScanSelf.f
 repeat' first
   | (with_reducible exact ih0 _ _ _ _)
   | (with_reducible exact sapperlaw15_index.mono _ _)
   | (with_reducible exact sapperlaw15_lives.mono _)
   | (with_reducible exact scan_Steps.mono _ _ _)
   | (with_reducible exact LeO.refl _)
   | (with_reducible exact LeO.none _)
   | (with_reducible refine LeO.ite ?_ ?_)
   | (with_reducible refine LeO.bind ?_ (fun _ => ?_))
   | exact ih0 _ _ _ _
   | exact sapperlaw15_index.mono _ _
   | exact sapperlaw15_lives.mono _
   | exact scan_Steps.mono _ _ _
   | exact LeO.none _
   | refine LeO.ite ?_ ?_
   | refine LeO.bind ?_ (fun _ => ?_)
set_option maxHeartbeats 8000000 in
set_option maxRecDepth 100000 in
theorem sapperlaw15_ScanSelf.calls (k : Nat) (A0 : Option Addr) (c0 : Nat) (l0 : List Int) (r : Bool) (w : World) (hr0 : Kd.C (Kd.int .u8) w A0 l0.length l0) (hc0 : l0.length ≤ c0) (h : sapperlaw15_ScanSelf.f k l0 = some r) :
  Calls Try.prog 7 #[.slice A0 l0.length c0] w fun e w' => e = .returned (.bool r) ∧ Below w.heap.size w w' := by
 have hu39 := Try.underlying39
 have HR0 := Aside0.mk hr0
 have HC0 := Aside0.mk hc0
 clear hr0 hc0
 have HB := Aside0.mk (Below.refl w.heap.size w)
 have H : (if (l0.length : Int) > 16777216 then ((sapperlaw15_lives.f k).bind fun t318 => (some t318)) else ((sapperlaw15_index.f k l0).bind fun t319 => ((scan_Steps.f k t319 l0).bind fun bt322 => ((sapperlaw15_index.f k ([] : List Int)).bind fun t326 => ((scan_Steps.f k t326 l0).bind fun bt329 => ((sapperlaw15_index.f k l0).bind fun t333 => ((scan_Steps.f k t333 ([] : List Int)).bind fun bt336 => (if bt322.2 = 0 then (if bt329.2 = 0 then (if bt336.2 = 0 then (sapperlaw15_ScanSelf.j0 k l0 bt322.1 bt329.1 (decide ((bt336.1.length : Int) > 0))) else (sapperlaw15_ScanSelf.j0 k l0 bt322.1 bt329.1 true)) else (sapperlaw15_ScanSelf.j0 k l0 bt322.1 bt329.1 true)) else (sapperlaw15_ScanSelf.j0 k l0 bt322.1 bt329.1 true))))))))) = some r := h
 clear h
 by_cases c2 : (l0.length : Int) > 16777216
 ·rw [if_pos c2] at H
  have c2b0 : decide (16777216 < (l0.length : Int)) = true := decide_eq_true c2
  have c2b1 : decide (16777216 < l0.length) = true := decide_eq_true (by omega)
  clear c2
  replace H := Option.bind_eq_some_iff.mp H
  obtain ⟨t318, A30, H⟩ := H
  replace H : (some t318) = some r := H
  have A3 := Aside0.mk A30
  clear A30
  obtain rfl := Option.some.inj H
  go_enter Try.func7, Try.ntmps7
  go_wp2_with (first | ((with_reducible refine gate_callee (f := 9) rfl ?_); refine goesL_ (some 12) rfl rfl Try.func9 (by kernel_rfl) rfl #[] rfl (by (try simp only [List.map_toArray, List.map_cons, List.map_nil]); first | done | rfl | (simp only [List.length_drop, List.length_take]; rfl)) ?_; (with_reducible refine (sapperlaw15_lives.calls k  t318 _ A3.out).mono ?_); rintro e w4 ⟨rfl, hb⟩; refine ⟨_, rfl, ?_⟩; have n0_ := Aside0.mk (below_step (by repeat (first | (with_reducible first | exact HB.out | apply below_alloc | apply pw_below_drewN | apply below_drew1) | exact HB.out)) hb); clear HB; have HB := n0_; clear n0_; (try clear hb); (try clear hb2); (try clear hk); (try clear hi)))
  go_ret
  exact ⟨by first | rfl | (simp [errW_none, errW_some] <;> rfl) | (simp [*, errW_none, errW_some] <;> rfl), by repeat (first | (with_reducible first | exact HB.out | apply below_alloc | apply pw_below_drewN | apply below_drew1) | exact HB.out)⟩
 ·rw [if_neg c2] at H
  have c2b0 : decide (16777216 < (l0.length : Int)) = false := decide_eq_false c2
  have c2b1 : decide (16777216 < l0.length) = false := decide_eq_false (by omega)
  clear c2
  replace H := Option.bind_eq_some_iff.mp H
  obtain ⟨t319, A50, H⟩ := H
  replace H : ((scan_Steps.f k t319 l0).bind fun bt322 => ((sapperlaw15_index.f k ([] : List Int)).bind fun t326 => ((scan_Steps.f k t326 l0).bind fun bt329 => ((sapperlaw15_index.f k l0).bind fun t333 => ((scan_Steps.f k t333 ([] : List Int)).bind fun bt336 => (if bt322.2 = 0 then (if bt329.2 = 0 then (if bt336.2 = 0 then (sapperlaw15_ScanSelf.j0 k l0 bt322.1 bt329.1 (decide ((bt336.1.length : Int) > 0))) else (sapperlaw15_ScanSelf.j0 k l0 bt322.1 bt329.1 true)) else (sapperlaw15_ScanSelf.j0 k l0 bt322.1 bt329.1 true)) else (sapperlaw15_ScanSelf.j0 k l0 bt322.1 bt329.1 true))))))) = some r := H
  have A5 := Aside0.mk A50
  clear A50
  replace H := Option.bind_eq_some_iff.mp H
  obtain ⟨⟨t322, t323⟩, A60, H⟩ := H
  replace H : ((sapperlaw15_index.f k ([] : List Int)).bind fun t326 => ((scan_Steps.f k t326 l0).bind fun bt329 => ((sapperlaw15_index.f k l0).bind fun t333 => ((scan_Steps.f k t333 ([] : List Int)).bind fun bt336 => (if t323 = 0 then (if bt329.2 = 0 then (if bt336.2 = 0 then (sapperlaw15_ScanSelf.j0 k l0 t322 bt329.1 (decide ((bt336.1.length : Int) > 0))) else (sapperlaw15_ScanSelf.j0 k l0 t322 bt329.1 true)) else (sapperlaw15_ScanSelf.j0 k l0 t322 bt329.1 true)) else (sapperlaw15_ScanSelf.j0 k l0 t322 bt329.1 true)))))) = some r := H
  have A6 := Aside0.mk A60
  clear A60
  replace H := Option.bind_eq_some_iff.mp H
  obtain ⟨t326, A70, H⟩ := H
  replace H : ((scan_Steps.f k t326 l0).bind fun bt329 => ((sapperlaw15_index.f k l0).bind fun t333 => ((scan_Steps.f k t333 ([] : List Int)).bind fun bt336 => (if t323 = 0 then (if bt329.2 = 0 then (if bt336.2 = 0 then (sapperlaw15_ScanSelf.j0 k l0 t322 bt329.1 (decide ((bt336.1.length : Int) > 0))) else (sapperlaw15_ScanSelf.j0 k l0 t322 bt329.1 true)) else (sapperlaw15_ScanSelf.j0 k l0 t322 bt329.1 true)) else (sapperlaw15_ScanSelf.j0 k l0 t322 bt329.1 true))))) = some r := H
  have A7 := Aside0.mk A70
  clear A70
  replace H := Option.bind_eq_some_iff.mp H
  obtain ⟨⟨t329, t330⟩, A80, H⟩ := H
  replace H : ((sapperlaw15_index.f k l0).bind fun t333 => ((scan_Steps.f k t333 ([] : List Int)).bind fun bt336 => (if t323 = 0 then (if t330 = 0 then (if bt336.2 = 0 then (sapperlaw15_ScanSelf.j0 k l0 t322 t329 (decide ((bt336.1.length : Int) > 0))) else (sapperlaw15_ScanSelf.j0 k l0 t322 t329 true)) else (sapperlaw15_ScanSelf.j0 k l0 t322 t329 true)) else (sapperlaw15_ScanSelf.j0 k l0 t322 t329 true)))) = some r := H
  have A8 := Aside0.mk A80
  clear A80
  replace H := Option.bind_eq_some_iff.mp H
  obtain ⟨t333, A90, H⟩ := H
  replace H : ((scan_Steps.f k t333 ([] : List Int)).bind fun bt336 => (if t323 = 0 then (if t330 = 0 then (if bt336.2 = 0 then (sapperlaw15_ScanSelf.j0 k l0 t322 t329 (decide ((bt336.1.length : Int) > 0))) else (sapperlaw15_ScanSelf.j0 k l0 t322 t329 true)) else (sapperlaw15_ScanSelf.j0 k l0 t322 t329 true)) else (sapperlaw15_ScanSelf.j0 k l0 t322 t329 true))) = some r := H
  have A9 := Aside0.mk A90
  clear A90
  replace H := Option.bind_eq_some_iff.mp H
  obtain ⟨⟨t336, t337⟩, A100, H⟩ := H
  replace H : (if t323 = 0 then (if t330 = 0 then (if t337 = 0 then (sapperlaw15_ScanSelf.j0 k l0 t322 t329 (decide ((t336.length : Int) > 0))) else (sapperlaw15_ScanSelf.j0 k l0 t322 t329 true)) else (sapperlaw15_ScanSelf.j0 k l0 t322 t329 true)) else (sapperlaw15_ScanSelf.j0 k l0 t322 t329 true)) = some r := H
  have A10 := Aside0.mk A100
  clear A100
  have HC11 := Aside0.mk H
  clear H
  go_enter Try.func7, Try.ntmps7
  go_upto_region 6 with (first | ((with_reducible refine gate_callee (f := 10) rfl ?_); refine goesL_ (some 15) rfl rfl Try.func10 (by kernel_rfl) rfl #[.slice A0 l0.length c0] rfl (by (try simp only [List.map_toArray, List.map_cons, List.map_nil]); first | done | rfl | (simp only [List.length_drop, List.length_take]; rfl)) ?_; (with_reducible refine (sapperlaw15_index.calls k _ _ l0 t319 _ ?side1 ?side2 A5.out).mono ?_); (case side1 => repeat (first | exact HR0.out | (with_reducible refine Kd.C_alloc ?_ _) | (with_reducible refine Kd.C_drewN ?_ _) | (with_reducible refine Kd.C_drew ?_))); (case side2 => exact HC0.out); rintro e w12 ⟨v320, rfl, ho0, hb⟩; refine ⟨_, rfl, ?_⟩; have n0_ := Aside0.mk (Kd.S_lower ho0 (below_size (by repeat (first | (with_reducible first | exact HB.out | apply below_alloc | apply pw_below_drewN | apply below_drew1) | exact HB.out)))); have n1_ := Aside0.mk (below_step (by repeat (first | (with_reducible first | exact HB.out | apply below_alloc | apply pw_below_drewN | apply below_drew1) | exact HB.out)) hb); clear HB; have HO321 := n0_; have HB := n1_; clear n0_ n1_; (try clear hb); (try clear hb2); (try clear hk); (try clear hi); (try clear ho0); obtain ⟨Ao13, co13, eo13⟩ := Kd.S_slice HO321.out; subst eo13) | ((with_reducible refine gate_callee (f := 12) rfl ?_); refine goesL_ (some 17) rfl rfl Try.func12 (by kernel_rfl) rfl #[ptrOf (.slice Ao13 t319.length co13), .slice A0 l0.length c0] rfl (by (try simp only [List.map_toArray, List.map_cons, List.map_nil]); first | done | rfl | (simp only [List.length_drop, List.length_take]; rfl)) ?_; (with_reducible refine (scan_Steps.calls k _ _ t319 _ _ l0 t322 t323 _ ?side1 ?side2 ?side3 ?side4 A6.out).mono ?_); (case side1 => repeat (first | exact (Kd.S_reads' HO321.out).2.2 | (with_reducible refine Kd.C_alloc ?_ _) | (with_reducible refine Kd.C_drewN ?_ _) | (with_reducible refine Kd.C_drew ?_))); (case side2 => exact (Kd.S_reads' HO321.out).2.1); (case side3 => repeat (first | exact (Kd.C_below HR0.out HB.out) | (with_reducible refine Kd.C_alloc ?_ _) | (with_reducible refine Kd.C_drewN ?_ _) | (with_reducible refine Kd.C_drew ?_))); (case side4 => exact HC0.out); rintro e w14 ⟨v324, rfl, ho0, hb⟩; refine ⟨_, rfl, ?_⟩; have n0_ := Aside0.mk (Kd.S_below (by (with_reducible repeat (first | apply Kd.S_alloc | apply Kd.S_drewN | apply Kd.S_drew)); exact HO321.out) hb); have n1_ := Aside0.mk (Kd.R_lower ho0 (below_size (by repeat (first | (with_reducible first | exact HB.out | apply below_alloc | apply pw_below_drewN | apply below_drew1) | exact HB.out)))); have n2_ := Aside0.mk (below_step (by repeat (first | (with_reducible first | exact HB.out | apply below_alloc | apply pw_below_drewN | apply below_drew1) | exact HB.out)) hb); clear HO321; clear HB; have HO321 := n0_; have HO325 := n1_; have HB := n2_; clear n0_ n1_ n2_; (try clear hb); (try clear hb2); (try clear hk); (try clear hi); (try clear ho0)) | ((with_reducible refine gate_callee (f := 10) rfl ?_); refine goesL_ (some 21) rfl rfl Try.func10 (by kernel_rfl) rfl #[.slice none 0 0] rfl (by (try simp only [List.map_toArray, List.map_cons, List.map_nil]); first | done | rfl | (simp only [List.length_drop, List.length_take]; rfl)) ?_; (refine (sapperlaw15_index.calls k _ _ ([] : List Int) t326 _ ?side1 ?side2 A7.out).mono ?_); (case side1 => exact Kd.C_nil _ _); (case side2 => exact Nat.le_refl _); rintro e w15 ⟨v327, rfl, ho0, hb⟩; refine ⟨_, rfl, ?_⟩; have n0_ := Aside0.mk (Kd.S_elder' (by (with_reducible repeat (first | apply Kd.S_alloc | apply Kd.S_drewN | apply Kd.S_drew)); exact HO321.out) (Kd.S_base ho0) hb); have n1_ := Aside0.mk (Kd.R_below (by (with_reducible repeat (first | apply Kd.R_alloc | apply Kd.R_drewN | apply Kd.R_drew)); exact HO325.out) hb); have n2_ := Aside0.mk (Kd.S_lower (Kd.S_new' ho0 (Kd.S_lt (by (with_reducible repeat (first | apply Kd.S_alloc | apply Kd.S_drewN | apply Kd.S_drew)); exact HO321.out))) (below_size (by repeat (first | (with_reducible first | exact HB.out | apply below_alloc | apply pw_below_drewN | apply below_drew1) | exact HB.out)))); have n3_ := Aside0.mk (below_step (by repeat (first | (with_reducible first | exact HB.out | apply below_alloc | apply pw_below_drewN | apply below_drew1) | exact HB.out)) hb); clear HO321; clear HO325; clear HB; have HO321 := n0_; have HO325 := n1_; have HO328 := n2_; have HB := n3_; clear n0_ n1_ n2_ n3_; (try clear hb); (try clear hb2); (try clear hk); (try clear hi); (try clear ho0); obtain ⟨Ao16, co16, eo16⟩ := Kd.S_slice HO328.out; subst eo16) | ((with_reducible refine gate_callee (f := 12) rfl ?_); refine goesL_ (some 23) rfl rfl Try.func12 (by kernel_rfl) rfl #[ptrOf (.slice Ao16 t326.length co16), .slice A0 l0.length c0] rfl (by (try simp only [List.map_toArray, List.map_cons, List.map_nil]); first | done | rfl | (simp only [List.length_drop, List.length_take]; rfl)) ?_; (with_reducible refine (scan_Steps.calls k _ _ t326 _ _ l0 t329 t330 _ ?side1 ?side2 ?side3 ?side4 A8.out).mono ?_); (case side1 => repeat (first | exact (Kd.S_reads' HO328.out).2.2 | (with_reducible refine Kd.C_alloc ?_ _) | (with_reducible refine Kd.C_drewN ?_ _) | (with_reducible refine Kd.C_drew ?_))); (case side2 => exact (Kd.S_reads' HO328.out).2.1); (case side3 => repeat (first | exact (Kd.C_below HR0.out HB.out) | (with_reducible refine Kd.C_alloc ?_ _) | (with_reducible refine Kd.C_drewN ?_ _) | (with_reducible refine Kd.C_drew ?_))); (case side4 => exact HC0.out); rintro e w17 ⟨v331, rfl, ho0, hb⟩; refine ⟨_, rfl, ?_⟩; have n0_ := Aside0.mk (Kd.S_below (by (with_reducible repeat (first | apply Kd.S_alloc | apply Kd.S_drewN | apply Kd.S_drew)); exact HO321.out) hb); have n1_ := Aside0.mk (Kd.R_elder' (by (with_reducible repeat (first | apply Kd.R_alloc | apply Kd.R_drewN | apply Kd.R_drew)); exact HO325.out) (Kd.R_base ho0) hb); have n2_ := Aside0.mk (Kd.S_below (by (with_reducible repeat (first | apply Kd.S_alloc | apply Kd.S_drewN | apply Kd.S_drew)); exact HO328.out) hb); have n3_ := Aside0.mk (Kd.R_lower (Kd.R_new' ho0 (Kd.R_lt (by (with_reducible repeat (first | apply Kd.R_alloc | apply Kd.R_drewN | apply Kd.R_drew)); exact HO325.out))) (below_size (by repeat (first | (with_reducible first | exact HB.out | apply below_alloc | apply pw_below_drewN | apply below_drew1) | exact HB.out)))); have n4_ := Aside0.mk (below_step (by repeat (first | (with_reducible first | exact HB.out | apply below_alloc | apply pw_below_drewN | apply below_drew1) | exact HB.out)) hb); clear HO321; clear HO325; clear HO328; clear HB; have HO321 := n0_; have HO325 := n1_; have HO328 := n2_; have HO332 := n3_; have HB := n4_; clear n0_ n1_ n2_ n3_ n4_; (try clear hb); (try clear hb2); (try clear hk); (try clear hi); (try clear ho0)) | ((with_reducible refine gate_callee (f := 10) rfl ?_); refine goesL_ (some 28) rfl rfl Try.func10 (by kernel_rfl) rfl #[.slice A0 l0.length c0] rfl (by (try simp only [List.map_toArray, List.map_cons, List.map_nil]); first | done | rfl | (simp only [List.length_drop, List.length_take]; rfl)) ?_; (with_reducible refine (sapperlaw15_index.calls k _ _ l0 t333 _ ?side1 ?side2 A9.out).mono ?_); (case side1 => repeat (first | exact (Kd.C_below HR0.out HB.out) | (with_reducible refine Kd.C_alloc ?_ _) | (with_reducible refine Kd.C_drewN ?_ _) | (with_reducible refine Kd.C_drew ?_))); (case side2 => exact HC0.out); rintro e w18 ⟨v334, rfl, ho0, hb⟩; refine ⟨_, rfl, ?_⟩; have n0_ := Aside0.mk (Kd.S_elder' (by (with_reducible repeat (first | apply Kd.S_alloc | apply Kd.S_drewN | apply Kd.S_drew)); exact HO321.out) (Kd.S_base ho0) hb); have n1_ := Aside0.mk (Kd.R_below (by (with_reducible repeat (first | apply Kd.R_alloc | apply Kd.R_drewN | apply Kd.R_drew)); exact HO325.out) hb); have n2_ := Aside0.mk (Kd.S_elder' (by (with_reducible repeat (first | apply Kd.S_alloc | apply Kd.S_drewN | apply Kd.S_drew)); exact HO328.out) (Kd.S_base ho0) hb); have n3_ := Aside0.mk (Kd.R_below (by (with_reducible repeat (first | apply Kd.R_alloc | apply Kd.R_drewN | apply Kd.R_drew)); exact HO332.out) hb); have n4_ := Aside0.mk (Kd.S_lower (Kd.S_new' (Kd.S_new' ho0 (Kd.S_lt (by (with_reducible repeat (first | apply Kd.S_alloc | apply Kd.S_drewN | apply Kd.S_drew)); exact HO321.out))) (Kd.S_lt (by (with_reducible repeat (first | apply Kd.S_alloc | apply Kd.S_drewN | apply Kd.S_drew)); exact HO328.out))) (below_size (by repeat (first | (with_reducible first | exact HB.out | apply below_alloc | apply pw_below_drewN | apply below_drew1) | exact HB.out)))); have n5_ := Aside0.mk (below_step (by repeat (first | (with_reducible first | exact HB.out | apply below_alloc | apply pw_below_drewN | apply below_drew1) | exact HB.out)) hb); clear HO321; clear HO325; clear HO328; clear HO332; clear HB; have HO321 := n0_; have HO325 := n1_; have HO328 := n2_; have HO332 := n3_; have HO335 := n4_; have HB := n5_; clear n0_ n1_ n2_ n3_ n4_ n5_; (try clear hb); (try clear hb2); (try clear hk); (try clear hi); (try clear ho0); obtain ⟨Ao19, co19, eo19⟩ := Kd.S_slice HO335.out; subst eo19) | ((with_reducible refine gate_callee (f := 12) rfl ?_); refine goesL_ (some 29) rfl rfl Try.func12 (by kernel_rfl) rfl #[ptrOf (.slice Ao19 t333.length co19), .slice none 0 0] rfl (by (try simp only [List.map_toArray, List.map_cons, List.map_nil]); first | done | rfl | (simp only [List.length_drop, List.length_take]; rfl)) ?_; (refine (scan_Steps.calls k _ _ t333 _ _ ([] : List Int) t336 t337 _ ?side1 ?side2 ?side3 ?side4 A10.out).mono ?_); (case side1 => repeat (first | exact (Kd.S_reads' HO335.out).2.2 | (with_reducible refine Kd.C_alloc ?_ _) | (with_reducible refine Kd.C_drewN ?_ _) | (with_reducible refine Kd.C_drew ?_))); (case side2 => exact (Kd.S_reads' HO335.out).2.1); (case side3 => exact Kd.C_nil _ _); (case side4 => exact Nat.le_refl _); rintro e w20 ⟨v338, rfl, ho0, hb⟩; refine ⟨_, rfl, ?_⟩; have n0_ := Aside0.mk (Kd.S_below (by (with_reducible repeat (first | apply Kd.S_alloc | apply Kd.S_drewN | apply Kd.S_drew)); exact HO321.out) hb); have n1_ := Aside0.mk (Kd.R_elder' (by (with_reducible repeat (first | apply Kd.R_alloc | apply Kd.R_drewN | apply Kd.R_drew)); exact HO325.out) (Kd.R_base ho0) hb); have n2_ := Aside0.mk (Kd.S_below (by (with_reducible repeat (first | apply Kd.S_alloc | apply Kd.S_drewN | apply Kd.S_drew)); exact HO328.out) hb); have n3_ := Aside0.mk (Kd.R_elder' (by (with_reducible repeat (first | apply Kd.R_alloc | apply Kd.R_drewN | apply Kd.R_drew)); exact HO332.out) (Kd.R_base ho0) hb); have n4_ := Aside0.mk (Kd.S_below (by (with_reducible repeat (first | apply Kd.S_alloc | apply Kd.S_drewN | apply Kd.S_drew)); exact HO335.out) hb); have n5_ := Aside0.mk (Kd.R_lower (Kd.R_new' (Kd.R_new' ho0 (Kd.R_lt (by (with_reducible repeat (first | apply Kd.R_alloc | apply Kd.R_drewN | apply Kd.R_drew)); exact HO325.out))) (Kd.R_lt (by (with_reducible repeat (first | apply Kd.R_alloc | apply Kd.R_drewN | apply Kd.R_drew)); exact HO332.out))) (below_size (by repeat (first | (with_reducible first | exact HB.out | apply below_alloc | apply pw_below_drewN | apply below_drew1) | exact HB.out)))); have n6_ := Aside0.mk (below_step (by repeat (first | (with_reducible first | exact HB.out | apply below_alloc | apply pw_below_drewN | apply below_drew1) | exact HB.out)) hb); clear HO321; clear HO325; clear HO328; clear HO332; clear HO335; clear HB; have HO321 := n0_; have HO325 := n1_; have HO328 := n2_; have HO332 := n3_; have HO335 := n4_; have HO339 := n5_; have HB := n6_; clear n0_ n1_ n2_ n3_ n4_ n5_ n6_; (try clear hb); (try clear hb2); (try clear hk); (try clear hi); (try clear ho0)))
  (try simp only [Act.put, List.setIfInBounds_toArray, List.set_cons_zero, List.set_cons_succ])
  go_cut [46] (fun v46 wc => ∃ (kq : Nat) (x46_10 : Bool), v46 = .bool x46_10 ∧ Aside0 (sapperlaw15_ScanSelf.j0 kq l0 t322 t329 x46_10 = some r) ∧ Aside0 (kq ≤ k) ∧ Aside0 (Kd.R k39 39 wc w.heap.size (fun k_ => some k_ ≠ (v331 : Value).ownBlock) v324 t322) ∧ Aside0 (Kd.R k39 39 wc w.heap.size (fun k_ => some k_ ≠ (v324 : Value).ownBlock) v331 t329) ∧ Aside0 (Below w.heap.size w wc))
  case first =>
   have H := HC11.out
   clear HC11
   by_cases c21 : t323 = 0
   ·rw [if_pos c21] at H
    have c21b0 : (t323 == 0) = true := beq_iff_eq.mpr c21
    have c21b1 : (t323 != 0) = false := bne_eq_false_iff_eq.mpr c21
    clear c21
    (first | rw [c21b0] | rw [c21b1] | (simp only [i64_w, i32_w]; rw [c21b0]) | skip)
    by_cases c22 : t330 = 0
    ·rw [if_pos c22] at H
     have c22b0 : (t330 == 0) = true := beq_iff_eq.mpr c22
     have c22b1 : (t330 != 0) = false := bne_eq_false_iff_eq.mpr c22
     clear c22
     by_cases c23 : t337 = 0
     ·rw [if_pos c23] at H
      have c23b0 : (t337 == 0) = true := beq_iff_eq.mpr c23
      have c23b1 : (t337 != 0) = false := bne_eq_false_iff_eq.mpr c23
      clear c23
      have H' := Aside0.mk H
      clear H
      obtain ⟨Ao24, co24, eo24⟩ := Kd.R_slice HO339.out
      subst eo24
      go_wp2
      go_meet
      case rel => exact ⟨_, (decide ((t336.length : Int) > 0)), (by first | rfl | (simp; done) | (simp [*]; done)), H', ⟨by first | omega | exact Nat.le_refl _⟩, ⟨by (with_reducible repeat (first | apply Kd.R_alloc | apply Kd.R_drewN | apply Kd.R_drew)); exact Kd.R_mono HO325.out (fun _ hk => hk.1.2)⟩, ⟨by (with_reducible repeat (first | apply Kd.R_alloc | apply Kd.R_drewN | apply Kd.R_drew)); exact Kd.R_mono HO332.out (fun _ hk => hk.1.2)⟩, ⟨by repeat (first | (with_reducible first | exact HB.out | apply below_alloc | apply pw_below_drewN | apply below_drew1) | exact HB.out)⟩⟩
     ·rw [if_neg c23] at H
      have c23b0 : (t337 == 0) = false := beq_eq_false_iff_ne.mpr c23
      have c23b1 : (t337 != 0) = true := bne_iff_ne.mpr c23
      have H' := Aside0.mk H
      clear H
      go_wp2
      go_meet
      case rel => exact ⟨_, (true), (by first | rfl | (simp; done) | (simp [*]; done)), H', ⟨by first | omega | exact Nat.le_refl _⟩, ⟨by (with_reducible repeat (first | apply Kd.R_alloc | apply Kd.R_drewN | apply Kd.R_drew)); exact Kd.R_mono HO325.out (fun _ hk => hk.1.2)⟩, ⟨by (with_reducible repeat (first | apply Kd.R_alloc | apply Kd.R_drewN | apply Kd.R_drew)); exact Kd.R_mono HO332.out (fun _ hk => hk.1.2)⟩, ⟨by repeat (first | (with_reducible first | exact HB.out | apply below_alloc | apply pw_below_drewN | apply below_drew1) | exact HB.out)⟩⟩
    ·rw [if_neg c22] at H
     have c22b0 : (t330 == 0) = false := beq_eq_false_iff_ne.mpr c22
     have c22b1 : (t330 != 0) = true := bne_iff_ne.mpr c22
     have H' := Aside0.mk H
     clear H
     go_wp2
     go_meet
     case rel => exact ⟨_, (true), (by first | rfl | (simp; done) | (simp [*]; done)), H', ⟨by first | omega | exact Nat.le_refl _⟩, ⟨by (with_reducible repeat (first | apply Kd.R_alloc | apply Kd.R_drewN | apply Kd.R_drew)); exact Kd.R_mono HO325.out (fun _ hk => hk.1.2)⟩, ⟨by (with_reducible repeat (first | apply Kd.R_alloc | apply Kd.R_drewN | apply Kd.R_drew)); exact Kd.R_mono HO332.out (fun _ hk => hk.1.2)⟩, ⟨by repeat (first | (with_reducible first | exact HB.out | apply below_alloc | apply pw_below_drewN | apply below_drew1) | exact HB.out)⟩⟩
   ·rw [if_neg c21] at H
    have c21b0 : (t323 == 0) = false := beq_eq_false_iff_ne.mpr c21
    have c21b1 : (t323 != 0) = true := bne_iff_ne.mpr c21
    (first | rw [c21b0] | rw [c21b1] | (simp only [i64_w, i32_w]; rw [c21b0]) | skip)
    have H' := Aside0.mk H
    clear H
    go_wp2
    go_meet
    case rel => exact ⟨_, (true), (by first | rfl | (simp; done) | (simp [*]; done)), H', ⟨by first | omega | exact Nat.le_refl _⟩, ⟨by (with_reducible repeat (first | apply Kd.R_alloc | apply Kd.R_drewN | apply Kd.R_drew)); exact Kd.R_mono HO325.out (fun _ hk => hk.1.2)⟩, ⟨by (with_reducible repeat (first | apply Kd.R_alloc | apply Kd.R_drewN | apply Kd.R_drew)); exact Kd.R_mono HO332.out (fun _ hk => hk.1.2)⟩, ⟨by repeat (first | (with_reducible first | exact HB.out | apply below_alloc | apply pw_below_drewN | apply below_drew1) | exact HB.out)⟩⟩
  case rest =>
   clear HC11
   try clear c1
   try clear c2
   try clear c2b0
   try clear c2b1
   try clear p2
   try clear c7
   try clear c9
   try clear c10
   try clear c12
   try clear c21
   try clear c21b0
   try clear c21b1
   try clear c22
   try clear c22b0
   try clear c22b1
   try clear c23
   try clear c23b0
   try clear c23b1
   obtain ⟨kq, x46_10, rfl, HA, HJ10, HO_3, HO_5, HB⟩ := hcut
   cases kq with
   | zero => exact absurd HA.out (by simp [sapperlaw15_ScanSelf.j0])
   | succ kj10 =>
    have H := HA.out
    clear HA
    simp only [sapperlaw15_ScanSelf.j0] at H
    by_cases c25 : x46_10 = true
    ·subst c25
     have H1 : (some false) = some r := by rw [if_pos rfl] at H; exact H
     clear H
     have H := H1
     clear H1
     obtain rfl := Option.some.inj H
     go_wp2
     go_ret
     exact ⟨by first | rfl | (simp [errW_none, errW_some] <;> rfl) | (simp [*, errW_none, errW_some] <;> rfl), by repeat (first | (with_reducible first | exact HB.out | apply below_alloc | apply pw_below_drewN | apply below_drew1) | exact HB.out)⟩
    ·replace c25 := Bool.eq_false_iff.mpr c25
     subst c25
     have H1 : (if (l0.length : Int) = 0 then (if (t322.length : Int) = 0 then (if (t329.length : Int) = 0 then ((sapperlaw15_lives.f kj10).bind fun t340 => (some t340)) else (some false)) else (some false)) else (if (t329.length : Int) = 1 then (if 0 < (t329.length : Int) then (if (!(((rd_T39 t329 0).f0) == 0) || (!(((rd_T39 t329 0).f1) == (l0.length : Int)) || (!(((rd_T39 t329 0).f2) == 0)))) = true then (some false) else (if (l0.length : Int) < 9 then (some true) else (if (t322.length : Int) = 1 then (if 0 < (t322.length : Int) then (if (((rd_T39 t322 0).f0) == (l0.length : Int) && (((rd_T39 t322 0).f1) == 0 && (((rd_T39 t322 0).f2) == 0))) = true then ((sapperlaw15_lives.f kj10).bind fun t343 => (some t343)) else (some false)) else (none)) else (some false)))) else (none)) else (some false))) = some r := by rw [if_neg (show ¬ (false = true) by decide)] at H; exact H
     clear H
     have H := H1
     clear H1
     by_cases c26 : (l0.length : Int) = 0
     ·rw [if_pos c26] at H
      have c26b0 : ((l0.length : Int) == 0) = true := beq_iff_eq.mpr c26
      have c26b1 : ((l0.length : Int) != 0) = false := bne_eq_false_iff_eq.mpr c26
      clear c26
      by_cases c27 : (t322.length : Int) = 0
      ·rw [if_pos c27] at H
       have c27b0 : ((t322.length : Int) == 0) = true := beq_iff_eq.mpr c27
       have c27b1 : ((t322.length : Int) != 0) = false := bne_eq_false_iff_eq.mpr c27
       clear c27
       by_cases c28 : (t329.length : Int) = 0
       ·rw [if_pos c28] at H
        have c28b0 : ((t329.length : Int) == 0) = true := beq_iff_eq.mpr c28
        have c28b1 : ((t329.length : Int) != 0) = false := bne_eq_false_iff_eq.mpr c28
        clear c28
        replace H := Option.bind_eq_some_iff.mp H
        obtain ⟨t340, A290, H⟩ := H
        replace H : (some t340) = some r := H
        have A29 := Aside0.mk A290
        clear A290
        obtain rfl := Option.some.inj H
        obtain ⟨Ao30, co30, eo30⟩ := Kd.R_slice HO_3.out
        subst eo30
        obtain ⟨Ao31, co31, eo31⟩ := Kd.R_slice HO_5.out
        subst eo31
        go_wp2_with (first | (go_at_call 9; (with_reducible refine (sapperlaw15_lives.calls kj10  t340 _ A29.out).mono ?_); rintro e w32 ⟨rfl, hb⟩; have n0_ := Aside0.mk (Kd.R_below (by (with_reducible repeat (first | apply Kd.R_alloc | apply Kd.R_drewN | apply Kd.R_drew)); exact HO_3.out) hb); have n1_ := Aside0.mk (Kd.R_below (by (with_reducible repeat (first | apply Kd.R_alloc | apply Kd.R_drewN | apply Kd.R_drew)); exact HO_5.out) hb); have n2_ := Aside0.mk (below_step (by repeat (first | (with_reducible first | exact HB.out | apply below_alloc | apply pw_below_drewN | apply below_drew1) | exact HB.out)) hb); clear HO_3; clear HO_5; clear HB; have HO_3 := n0_; have HO_5 := n1_; have HB := n2_; clear n0_ n1_ n2_; (try clear hb); (try clear hb2); (try clear hk); (try clear hi)))
        go_ret
        exact ⟨by first | rfl | (simp [errW_none, errW_some] <;> rfl) | (simp [*, errW_none, errW_some] <;> rfl), by repeat (first | (with_reducible first | exact HB.out | apply below_alloc | apply pw_below_drewN | apply below_drew1) | exact HB.out)⟩
       ·rw [if_neg c28] at H
        have c28b0 : ((t329.length : Int) == 0) = false := beq_eq_false_iff_ne.mpr c28
        have c28b1 : ((t329.length : Int) != 0) = true := bne_iff_ne.mpr c28
        have c28b2 : ¬ (t329 = []) := fun h_ => c28 (by rw [h_]; rfl)
        obtain rfl := Option.some.inj H
        obtain ⟨Ao33, co33, eo33⟩ := Kd.R_slice HO_3.out
        subst eo33
        obtain ⟨Ao34, co34, eo34⟩ := Kd.R_slice HO_5.out
        subst eo34
        go_wp2
        go_ret
        exact ⟨by first | rfl | (simp [errW_none, errW_some] <;> rfl) | (simp [*, errW_none, errW_some] <;> rfl), by repeat (first | (with_reducible first | exact HB.out | apply below_alloc | apply pw_below_drewN | apply below_drew1) | exact HB.out)⟩
      ·rw [if_neg c27] at H
       have c27b0 : ((t322.length : Int) == 0) = false := beq_eq_false_iff_ne.mpr c27
       have c27b1 : ((t322.length : Int) != 0) = true := bne_iff_ne.mpr c27
       have c27b2 : ¬ (t322 = []) := fun h_ => c27 (by rw [h_]; rfl)
       obtain rfl := Option.some.inj H
       obtain ⟨Ao35, co35, eo35⟩ := Kd.R_slice HO_3.out
       subst eo35
       go_wp2
       go_ret
       exact ⟨by first | rfl | (simp [errW_none, errW_some] <;> rfl) | (simp [*, errW_none, errW_some] <;> rfl), by repeat (first | (with_reducible first | exact HB.out | apply below_alloc | apply pw_below_drewN | apply below_drew1) | exact HB.out)⟩
     ·rw [if_neg c26] at H
      have c26b0 : ((l0.length : Int) == 0) = false := beq_eq_false_iff_ne.mpr c26
      have c26b1 : ((l0.length : Int) != 0) = true := bne_iff_ne.mpr c26
      have c26b2 : ¬ (l0 = []) := fun h_ => c26 (by rw [h_]; rfl)
      by_cases c36 : (t329.length : Int) = 1
      ·rw [if_pos c36] at H
       have c36b0 : ((t329.length : Int) == 1) = true := beq_iff_eq.mpr c36
       have c36b1 : ((t329.length : Int) != 1) = false := bne_eq_false_iff_eq.mpr c36
       clear c36
       by_cases c37 : 0 < (t329.length : Int)
       ·rw [if_pos c37] at H
        have c37b0 : decide (0 < (t329.length : Int)) = true := decide_eq_true c37
        have c37b1 : decide (0 < t329.length) = true := decide_eq_true (by omega)
        clear c37
        by_cases c38 : (!(((rd_T39 t329 0).f0) == 0) || (!(((rd_T39 t329 0).f1) == (l0.length : Int)) || (!(((rd_T39 t329 0).f2) == 0)))) = true
        ·rw [if_pos c38] at H
         have c38b0 : (!(((rd_T39 t329 0).f0) == 0) || (!(((rd_T39 t329 0).f1) == (l0.length : Int)) || (!(((rd_T39 t329 0).f2) == 0)))) = true := c38
         clear c38
         obtain rfl := Option.some.inj H
         obtain ⟨Ao39, co39, eo39⟩ := Kd.R_slice HO_5.out
         subst eo39
         have p341 : 0 ≤ (0 : Int) := (by omega)
         have q341 : 0 < (t329.length : Int) := of_decide_eq_true (by first | (with_reducible assumption) | assumption)
         obtain ⟨ad341, e341, hx341_0, hx341_1, hx341_2⟩ := at_T39 (Kd.R_reads' HO_5.out).2.2 0 p341 q341
         cases e341
         have qi341 : (0 < t329.length) = True := eq_true (by omega)
         (try rw [show ((0 : Int)).toNat = 0 from rfl] at hx341_0)
         (try rw [show 0 * 3 = 0 from rfl] at hx341_0)
         (try rw [Addr.add_zero'] at hx341_0)
         (try rw [show ((0 : Int)).toNat = 0 from rfl] at hx341_1)
         (try rw [show 0 * 3 = 0 from rfl] at hx341_1)
         (try rw [Addr.add_zero'] at hx341_1)
         (try rw [show ((0 : Int)).toNat = 0 from rfl] at hx341_2)
         (try rw [show 0 * 3 = 0 from rfl] at hx341_2)
         (try rw [Addr.add_zero'] at hx341_2)
         replace p341 := eq_true p341
         replace q341 := eq_true q341
         go_wp2
         go_ret
         exact ⟨by first | rfl | (simp [errW_none, errW_some] <;> rfl) | (simp [*, errW_none, errW_some] <;> rfl), by repeat (first | (with_reducible first | exact HB.out | apply below_alloc | apply pw_below_drewN | apply below_drew1) | exact HB.out)⟩
        ·rw [if_neg c38] at H
         have c38b0 : (!(((rd_T39 t329 0).f0) == 0) || (!(((rd_T39 t329 0).f1) == (l0.length : Int)) || (!(((rd_T39 t329 0).f2) == 0)))) = false := by simpa using c38
         clear c38
         by_cases c40 : (l0.length : Int) < 9
         ·rw [if_pos c40] at H
          have c40b0 : decide ((l0.length : Int) < 9) = true := decide_eq_true c40
          have c40b1 : decide (l0.length < 9) = true := decide_eq_true (by omega)
          clear c40
          obtain rfl := Option.some.inj H
          obtain ⟨Ao41, co41, eo41⟩ := Kd.R_slice HO_5.out
          subst eo41
          have p341 : 0 ≤ (0 : Int) := (by omega)
          have q341 : 0 < (t329.length : Int) := of_decide_eq_true (by first | (with_reducible assumption) | assumption)
          obtain ⟨ad341, e341, hx341_0, hx341_1, hx341_2⟩ := at_T39 (Kd.R_reads' HO_5.out).2.2 0 p341 q341
          cases e341
          have qi341 : (0 < t329.length) = True := eq_true (by omega)
          (try rw [show ((0 : Int)).toNat = 0 from rfl] at hx341_0)
          (try rw [show 0 * 3 = 0 from rfl] at hx341_0)
          (try rw [Addr.add_zero'] at hx341_0)
          (try rw [show ((0 : Int)).toNat = 0 from rfl] at hx341_1)
          (try rw [show 0 * 3 = 0 from rfl] at hx341_1)
          (try rw [Addr.add_zero'] at hx341_1)
          (try rw [show ((0 : Int)).toNat = 0 from rfl] at hx341_2)
          (try rw [show 0 * 3 = 0 from rfl] at hx341_2)
          (try rw [Addr.add_zero'] at hx341_2)
          replace p341 := eq_true p341
          replace q341 := eq_true q341
          go_wp2
          go_ret
          exact ⟨by first | rfl | (simp [errW_none, errW_some] <;> rfl) | (simp [*, errW_none, errW_some] <;> rfl), by repeat (first | (with_reducible first | exact HB.out | apply below_alloc | apply pw_below_drewN | apply below_drew1) | exact HB.out)⟩
         ·rw [if_neg c40] at H
          have c40b0 : decide ((l0.length : Int) < 9) = false := decide_eq_false c40
          have c40b1 : decide (l0.length < 9) = false := decide_eq_false (by omega)
          clear c40
          by_cases c42 : (t322.length : Int) = 1
          ·rw [if_pos c42] at H
           have c42b0 : ((t322.length : Int) == 1) = true := beq_iff_eq.mpr c42
           have c42b1 : ((t322.length : Int) != 1) = false := bne_eq_false_iff_eq.mpr c42
           clear c42
           by_cases c43 : 0 < (t322.length : Int)
           ·rw [if_pos c43] at H
            have c43b0 : decide (0 < (t322.length : Int)) = true := decide_eq_true c43
            have c43b1 : decide (0 < t322.length) = true := decide_eq_true (by omega)
            clear c43
            by_cases c44 : (((rd_T39 t322 0).f0) == (l0.length : Int) && (((rd_T39 t322 0).f1) == 0 && (((rd_T39 t322 0).f2) == 0))) = true
            ·rw [if_pos c44] at H
             have c44b0 : (((rd_T39 t322 0).f0) == (l0.length : Int) && (((rd_T39 t322 0).f1) == 0 && (((rd_T39 t322 0).f2) == 0))) = true := c44
             (try (have c44b1 : decide (((rd_T39 t322 0).f0) = (l0.length : Int) && (((rd_T39 t322 0).f1) == 0 && (((rd_T39 t322 0).f2) == 0))) = true := by simpa using c44))
             (try (have c44b2 : (((rd_T39 t322 0).f0) == (l0.length : Int) && (((rd_T39 t322 0).f1) == 0 && (((rd_T39 t322 0).f2) == 0))) = true := by simpa using c44))
             clear c44
             replace H := Option.bind_eq_some_iff.mp H
             obtain ⟨t343, A450, H⟩ := H
             replace H : (some t343) = some r := H
             have A45 := Aside0.mk A450
             clear A450
             obtain rfl := Option.some.inj H
             obtain ⟨Ao46, co46, eo46⟩ := Kd.R_slice HO_5.out
             subst eo46
             have p341 : 0 ≤ (0 : Int) := (by omega)
             have q341 : 0 < (t329.length : Int) := of_decide_eq_true (by first | (with_reducible assumption) | assumption)
             obtain ⟨ad341, e341, hx341_0, hx341_1, hx341_2⟩ := at_T39 (Kd.R_reads' HO_5.out).2.2 0 p341 q341
             cases e341
             have qi341 : (0 < t329.length) = True := eq_true (by omega)
             (try rw [show ((0 : Int)).toNat = 0 from rfl] at hx341_0)
             (try rw [show 0 * 3 = 0 from rfl] at hx341_0)
             (try rw [Addr.add_zero'] at hx341_0)
             (try rw [show ((0 : Int)).toNat = 0 from rfl] at hx341_1)
             (try rw [show 0 * 3 = 0 from rfl] at hx341_1)
             (try rw [Addr.add_zero'] at hx341_1)
             (try rw [show ((0 : Int)).toNat = 0 from rfl] at hx341_2)
             (try rw [show 0 * 3 = 0 from rfl] at hx341_2)
             (try rw [Addr.add_zero'] at hx341_2)
             replace p341 := eq_true p341
             replace q341 := eq_true q341
             obtain ⟨Ao47, co47, eo47⟩ := Kd.R_slice HO_3.out
             subst eo47
             have p342 : 0 ≤ (0 : Int) := (by omega)
             have q342 : 0 < (t322.length : Int) := of_decide_eq_true (by first | (with_reducible assumption) | assumption)
             obtain ⟨ad342, e342, hx342_0, hx342_1, hx342_2⟩ := at_T39 (Kd.R_reads' HO_3.out).2.2 0 p342 q342
             cases e342
             have qi342 : (0 < t322.length) = True := eq_true (by omega)
             (try rw [show ((0 : Int)).toNat = 0 from rfl] at hx342_0)
             (try rw [show 0 * 3 = 0 from rfl] at hx342_0)
             (try rw [Addr.add_zero'] at hx342_0)
             (try rw [show ((0 : Int)).toNat = 0 from rfl] at hx342_1)
             (try rw [show 0 * 3 = 0 from rfl] at hx342_1)
             (try rw [Addr.add_zero'] at hx342_1)
             (try rw [show ((0 : Int)).toNat = 0 from rfl] at hx342_2)
             (try rw [show 0 * 3 = 0 from rfl] at hx342_2)
             (try rw [Addr.add_zero'] at hx342_2)
             replace p342 := eq_true p342
             replace q342 := eq_true q342
             go_wp2_with (first | (go_at_call 9; (with_reducible refine (sapperlaw15_lives.calls kj10  t343 _ A45.out).mono ?_); rintro e w48 ⟨rfl, hb⟩; have n0_ := Aside0.mk (Kd.R_below (by (with_reducible repeat (first | apply Kd.R_alloc | apply Kd.R_drewN | apply Kd.R_drew)); exact HO_3.out) hb); have n1_ := Aside0.mk (Kd.R_below (by (with_reducible repeat (first | apply Kd.R_alloc | apply Kd.R_drewN | apply Kd.R_drew)); exact HO_5.out) hb); have n2_ := Aside0.mk (below_step (by repeat (first | (with_reducible first | exact HB.out | apply below_alloc | apply pw_below_drewN | apply below_drew1) | exact HB.out)) hb); clear HO_3; clear HO_5; clear HB; have HO_3 := n0_; have HO_5 := n1_; have HB := n2_; clear n0_ n1_ n2_; (try clear hb); (try clear hb2); (try clear hk); (try clear hi)))
             go_ret
             exact ⟨by first | rfl | (simp [errW_none, errW_some] <;> rfl) | (simp [*, errW_none, errW_some] <;> rfl), by repeat (first | (with_reducible first | exact HB.out | apply below_alloc | apply pw_below_drewN | apply below_drew1) | exact HB.out)⟩
            ·rw [if_neg c44] at H
             have c44b0 : (((rd_T39 t322 0).f0) == (l0.length : Int) && (((rd_T39 t322 0).f1) == 0 && (((rd_T39 t322 0).f2) == 0))) = false := by simpa using c44
             (try (have c44b1 : decide (((rd_T39 t322 0).f0) = (l0.length : Int) && (((rd_T39 t322 0).f1) == 0 && (((rd_T39 t322 0).f2) == 0))) = false := by simpa using c44))
             (try (have c44b2 : (((rd_T39 t322 0).f0) == (l0.length : Int) && (((rd_T39 t322 0).f1) == 0 && (((rd_T39 t322 0).f2) == 0))) = false := by simpa using c44))
             (try (have c44b3 : ¬ (((rd_T39 t322 0).f0) = (l0.length : Int) && (((rd_T39 t322 0).f1) == 0 && (((rd_T39 t322 0).f2) == 0))) := by simpa using c44))
             clear c44
             obtain rfl := Option.some.inj H
             obtain ⟨Ao49, co49, eo49⟩ := Kd.R_slice HO_5.out
             subst eo49
             have p341 : 0 ≤ (0 : Int) := (by omega)
             have q341 : 0 < (t329.length : Int) := of_decide_eq_true (by first | (with_reducible assumption) | assumption)
             obtain ⟨ad341, e341, hx341_0, hx341_1, hx341_2⟩ := at_T39 (Kd.R_reads' HO_5.out).2.2 0 p341 q341
             cases e341
             have qi341 : (0 < t329.length) = True := eq_true (by omega)
             (try rw [show ((0 : Int)).toNat = 0 from rfl] at hx341_0)
             (try rw [show 0 * 3 = 0 from rfl] at hx341_0)
             (try rw [Addr.add_zero'] at hx341_0)
             (try rw [show ((0 : Int)).toNat = 0 from rfl] at hx341_1)
             (try rw [show 0 * 3 = 0 from rfl] at hx341_1)
             (try rw [Addr.add_zero'] at hx341_1)
             (try rw [show ((0 : Int)).toNat = 0 from rfl] at hx341_2)
             (try rw [show 0 * 3 = 0 from rfl] at hx341_2)
             (try rw [Addr.add_zero'] at hx341_2)
             replace p341 := eq_true p341
             replace q341 := eq_true q341
             obtain ⟨Ao50, co50, eo50⟩ := Kd.R_slice HO_3.out
             subst eo50
             have p342 : 0 ≤ (0 : Int) := (by omega)
             have q342 : 0 < (t322.length : Int) := of_decide_eq_true (by first | (with_reducible assumption) | assumption)
             obtain ⟨ad342, e342, hx342_0, hx342_1, hx342_2⟩ := at_T39 (Kd.R_reads' HO_3.out).2.2 0 p342 q342
             cases e342
             have qi342 : (0 < t322.length) = True := eq_true (by omega)
             (try rw [show ((0 : Int)).toNat = 0 from rfl] at hx342_0)
             (try rw [show 0 * 3 = 0 from rfl] at hx342_0)
             (try rw [Addr.add_zero'] at hx342_0)
             (try rw [show ((0 : Int)).toNat = 0 from rfl] at hx342_1)
             (try rw [show 0 * 3 = 0 from rfl] at hx342_1)
             (try rw [Addr.add_zero'] at hx342_1)
             (try rw [show ((0 : Int)).toNat = 0 from rfl] at hx342_2)
             (try rw [show 0 * 3 = 0 from rfl] at hx342_2)
             (try rw [Addr.add_zero'] at hx342_2)
             replace p342 := eq_true p342
             replace q342 := eq_true q342
             go_wp2
             go_ret
             exact ⟨by first | rfl | (simp [errW_none, errW_some] <;> rfl) | (simp [*, errW_none, errW_some] <;> rfl), by repeat (first | (with_reducible first | exact HB.out | apply below_alloc | apply pw_below_drewN | apply below_drew1) | exact HB.out)⟩
           ·rw [if_neg c43] at H
            exact absurd H (by simp)
          ·rw [if_neg c42] at H
           have c42b0 : ((t322.length : Int) == 1) = false := beq_eq_false_iff_ne.mpr c42
           have c42b1 : ((t322.length : Int) != 1) = true := bne_iff_ne.mpr c42
           obtain rfl := Option.some.inj H
           obtain ⟨Ao51, co51, eo51⟩ := Kd.R_slice HO_5.out
           subst eo51
           have p341 : 0 ≤ (0 : Int) := (by omega)
           have q341 : 0 < (t329.length : Int) := of_decide_eq_true (by first | (with_reducible assumption) | assumption)
           obtain ⟨ad341, e341, hx341_0, hx341_1, hx341_2⟩ := at_T39 (Kd.R_reads' HO_5.out).2.2 0 p341 q341
           cases e341
           have qi341 : (0 < t329.length) = True := eq_true (by omega)
           (try rw [show ((0 : Int)).toNat = 0 from rfl] at hx341_0)
           (try rw [show 0 * 3 = 0 from rfl] at hx341_0)
           (try rw [Addr.add_zero'] at hx341_0)
           (try rw [show ((0 : Int)).toNat = 0 from rfl] at hx341_1)
           (try rw [show 0 * 3 = 0 from rfl] at hx341_1)
           (try rw [Addr.add_zero'] at hx341_1)
           (try rw [show ((0 : Int)).toNat = 0 from rfl] at hx341_2)
           (try rw [show 0 * 3 = 0 from rfl] at hx341_2)
           (try rw [Addr.add_zero'] at hx341_2)
           replace p341 := eq_true p341
           replace q341 := eq_true q341
           obtain ⟨Ao52, co52, eo52⟩ := Kd.R_slice HO_3.out
           subst eo52
           go_wp2
           go_ret
           exact ⟨by first | rfl | (simp [errW_none, errW_some] <;> rfl) | (simp [*, errW_none, errW_some] <;> rfl), by repeat (first | (with_reducible first | exact HB.out | apply below_alloc | apply pw_below_drewN | apply below_drew1) | exact HB.out)⟩
       ·rw [if_neg c37] at H
        exact absurd H (by simp)
      ·rw [if_neg c36] at H
       have c36b0 : ((t329.length : Int) == 1) = false := beq_eq_false_iff_ne.mpr c36
       have c36b1 : ((t329.length : Int) != 1) = true := bne_iff_ne.mpr c36
       obtain rfl := Option.some.inj H
       obtain ⟨Ao53, co53, eo53⟩ := Kd.R_slice HO_5.out
       subst eo53
       go_wp2
       go_ret
       exact ⟨by first | rfl | (simp [errW_none, errW_some] <;> rfl) | (simp [*, errW_none, errW_some] <;> rfl), by repeat (first | (with_reducible first | exact HB.out | apply below_alloc | apply pw_below_drewN | apply below_drew1) | exact HB.out)⟩

/-- THE ONE PURE STATEMENT of sapperlaw15_ScanSelf: yours. -/
def sapperlaw15_ScanSelf.Pure : Prop := ∀ (l0 : List Int), l0.length ≤ maxLen → l0.length * 1 ≤ 140737488351232 → (∀ x ∈ l0, (Lit.int .u8 x).wf = true) → ∃ k, sapperlaw15_ScanSelf.f k l0 = some true
theorem sapperlaw15_ScanSelf.walk (P : sapperlaw15_ScanSelf.Pure) (a0 : Option Addr) (len0 cap0 : Nat) (z0 : List Int) (w : World) (w0 : (a0 = none ∧ len0 = 0 ∧ cap0 = 0 ∧ z0 = []) ∨ ∃ x, a0 = some x ∧ len0 ≤ cap0 ∧ cap0 ≤ maxLen ∧ z0.length = cap0 ∧ (∀ i, i < z0.length → w.cell? (x.add i) = some (.int .u8 (z0.getD i 0))) ∧ ∀ n ∈ z0, (Lit.int .u8 n).wf = true) (y0 : len0 * 1 ≤ 140737488351232) :
  Calls Try.prog 7 #[.slice a0 len0 cap0] w fun e w' => e = .returned (.bool true) ∧ Below w.heap.size w w' := by
 obtain ⟨l0, rfl, hr0, hm0, hw0, hc0⟩ := ReadsInt.ofRowC w0
 obtain ⟨k, h⟩ := P l0 hm0 y0 hw0
 refine (sapperlaw15_ScanSelf.calls k _ _ l0 true w (Kd.C_of_reads (d := (0 : Int)) (h1 := fun _ => rfl) hr0) hc0 h).mono ?_
 rintro e w' ⟨rfl, hd⟩
 exact ⟨rfl, hd⟩

end Go.Proofs.Ytobknpeglagaaaa.X
