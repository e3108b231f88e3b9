-- Printed by wip/xprint.py of this repo (a wrapper of the session's own round the print).
import Derived.Test.YthcnnfahlhklgaaXx0
import Derived.Test.YthcnnfahlhklgaaXBA
import Derived.Test.YthcnnfahlhklgaaXx19
import Derived.Test.YthcnnfahlhklgaaXx20
import Derived.Test.YthcnnfahlhklgaaXx21
import Derived.Test.YthcnnfahlhklgaaXx22
import Derived.Test.YthcnnfahlhklgaaXx23
import Derived.Test.YthcnnfahlhklgaaXx25
import Derived.Test.YthcnnfahlhklgaaXx26
import Derived.Test.YthcnnfahlhklgaaXx27
import Derived.Test.YthcnnfahlhklgaaXx28
namespace Go.Proofs.Ythcnnfahlhklgaa.X
open Go.RowKit Go.Proofs.YthcnnfahlhklgaaW.PrintWords Go.Proofs.YthcnnfahlhklgaaW.PrintLast Go.Proofs.YthcnnfahlhklgaaW.PrintMore
attribute [local go_sem] ptrOf_eql ptrOf_neq ptrOf_eqg ptrOf_neg str_leq str_geq str_gtr max2_int min2_int max_two min_two max_three min_three max_four min_four   -- for this text's walks alone
set_option linter.unusedVariables false
set_option linter.unusedSimpArgs false

/-! ### sapperlaw13_SuffixTurns: function 9 -/
def sapperlaw13_SuffixTurns.j0 : Nat → List Int → Int → Bool → Option (Bool)
 | 0, _, _, _ => none
 | k + 1, x1, x2, x77 => if x77 = true then (some false) else ((sapperref01_Lend.f x1).bind fun t382 => (if 0 ≤ (x1.length : Int) then (if (x1.length : Int) ≤ (t382.length : Int) then ((suffix_Unturn.f (t382.take ((x1.length : Int) : Int).toNat) x2).bind fun bt389 => ((sapperref13_Unturn.f k x1 x2).bind fun bt393 => (if bt389.2 = bt393.2 then ((sapperref01_Same.f bt389.1 bt393.1).bind fun t397 => (if t397 = true then ((sapperref01_Kept.f t382 x1).bind fun t398 => (if t398 = true then ((sapperlaw13_lives.f k).bind fun t399 => (some t399)) else (some false))) else (some false))) else (some false)))) else (none)) else (none)))
def sapperlaw13_SuffixTurns.f (k : Nat) (l0 : List Int) (l1 : List Int) (a2 : Int) : Option (Bool) := (sapperref01_Lend.f l0).bind fun t353 => (if 0 ≤ (l0.length : Int) then (if (l0.length : Int) ≤ (t353.length : Int) then ((some (t353.take ((l0.length : Int) : Int).toNat : List Int)).bind fun y356 => ((suffix_Turn.f k y356).bind fun bt360 => ((suffix_Turn.f k y356).bind fun bt365 => ((sapperref13_Turn.f k l0).bind fun bt370 => (if bt360.2.2 = bt370.2.2 then (if bt360.2.1 = bt370.2.1 then ((sapperref01_Same.f bt360.1 bt370.1).bind fun t375 => (if t375 = true then ((sapperref01_Same.f bt365.1 bt370.1).bind fun t376 => (if t376 = true then ((sapperref01_Kept.f t353 l0).bind fun t377 => (if t377 = true then ((sapperref01_Own.f (([bt360.1, bt365.1] : List (List Int)))).bind fun t381 => (sapperlaw13_SuffixTurns.j0 k l1 a2 (!t381))) else (sapperlaw13_SuffixTurns.j0 k l1 a2 true))) else (sapperlaw13_SuffixTurns.j0 k l1 a2 true))) else (sapperlaw13_SuffixTurns.j0 k l1 a2 true))) else (sapperlaw13_SuffixTurns.j0 k l1 a2 true)) else (sapperlaw13_SuffixTurns.j0 k l1 a2 true)))))) else (none)) else (none))
theorem sapperlaw13_SuffixTurns.mono_l : ∀ k, (∀ y0 y1 y2, LeO (sapperlaw13_SuffixTurns.j0 k y0 y1 y2) (sapperlaw13_SuffixTurns.j0 (k + 1) y0 y1 y2))
 | 0 => fun _ _ _ r h => by simp [sapperlaw13_SuffixTurns.j0] at h
 | k + 1 => by
  have ih0 := sapperlaw13_SuffixTurns.mono_l k
  ·intro y0 y1 y2
   unfold sapperlaw13_SuffixTurns.j0
   repeat' first
   | (with_reducible exact ih0 _ _ _)
   | (with_reducible exact sapperlaw13_lives.mono _)
   | (with_reducible exact sapperref13_Turn.mono _ _)
   | (with_reducible exact sapperref13_Unturn.mono _ _ _)
   | (with_reducible exact suffix_Turn.mono _ _)
   | (with_reducible exact LeO.refl _)
   | (with_reducible exact LeO.none _)
   | (with_reducible refine LeO.ite ?_ ?_)
   | (with_reducible refine LeO.bind ?_ (fun _ => ?_))
   | exact ih0 _ _ _
   | exact sapperlaw13_lives.mono _
   | exact sapperref13_Turn.mono _ _
   | exact sapperref13_Unturn.mono _ _ _
   | exact suffix_Turn.mono _ _
   | exact LeO.none _
   | refine LeO.ite ?_ ?_
   | refine LeO.bind ?_ (fun _ => ?_)
theorem sapperlaw13_SuffixTurns.mono : ∀ a0 a1 a2 k, LeO (sapperlaw13_SuffixTurns.f k a0 a1 a2) (sapperlaw13_SuffixTurns.f (k + 1) a0 a1 a2) := by
 intro a0 a1 a2 k
 have ih0 := sapperlaw13_SuffixTurns.mono_l k
 unfold sapperlaw13_SuffixTurns.f
 repeat' first
   | (with_reducible exact ih0 _ _ _)
   | (with_reducible exact sapperlaw13_lives.mono _)
   | (with_reducible exact sapperref13_Turn.mono _ _)
   | (with_reducible exact sapperref13_Unturn.mono _ _ _)
   | (with_reducible exact suffix_Turn.mono _ _)
   | (with_reducible exact LeO.refl _)
   | (with_reducible exact LeO.none _)
   | (with_reducible refine LeO.ite ?_ ?_)
   | (with_reducible refine LeO.bind ?_ (fun _ => ?_))
   | exact ih0 _ _ _
   | exact sapperlaw13_lives.mono _
   | exact sapperref13_Turn.mono _ _
   | exact sapperref13_Unturn.mono _ _ _
   | exact suffix_Turn.mono _ _
   | exact LeO.none _
   | refine LeO.ite ?_ ?_
   | refine LeO.bind ?_ (fun _ => ?_)
set_option maxHeartbeats 8000000 in
set_option maxRecDepth 100000 in
theorem sapperlaw13_SuffixTurns.calls (k : Nat) (A0 : Option Addr) (c0 : Nat) (l0 : List Int) (A1 : Option Addr) (c1 : Nat) (l1 : List Int) (a2 : Int) (r : Bool) (w : World) (hr0 : Kd.C (Kd.int .u8) w A0 l0.length l0) (hc0 : l0.length ≤ c0) (hr1 : Kd.C (Kd.int .u8) w A1 l1.length l1) (hc1 : l1.length ≤ c1) (h : sapperlaw13_SuffixTurns.f k l0 l1 a2 = some r) :
  Calls Try.prog 9 #[.slice A0 l0.length c0, .slice A1 l1.length c1, .int .i64 a2] w fun e w' => e = .returned (.bool r) ∧ Below w.heap.size w w' := by
 have HR0 := Aside0.mk hr0
 have HC0 := Aside0.mk hc0
 clear hr0 hc0
 have HR1 := Aside0.mk hr1
 have HC1 := Aside0.mk hc1
 clear hr1 hc1
 have HB := Aside0.mk (Below.refl w.heap.size w)
 have H : ((sapperref01_Lend.f l0).bind fun t353 => (if 0 ≤ (l0.length : Int) then (if (l0.length : Int) ≤ (t353.length : Int) then ((some (t353.take ((l0.length : Int) : Int).toNat : List Int)).bind fun y356 => ((suffix_Turn.f k y356).bind fun bt360 => ((suffix_Turn.f k y356).bind fun bt365 => ((sapperref13_Turn.f k l0).bind fun bt370 => (if bt360.2.2 = bt370.2.2 then (if bt360.2.1 = bt370.2.1 then ((sapperref01_Same.f bt360.1 bt370.1).bind fun t375 => (if t375 = true then ((sapperref01_Same.f bt365.1 bt370.1).bind fun t376 => (if t376 = true then ((sapperref01_Kept.f t353 l0).bind fun t377 => (if t377 = true then ((sapperref01_Own.f (([bt360.1, bt365.1] : List (List Int)))).bind fun t381 => (sapperlaw13_SuffixTurns.j0 k l1 a2 (!t381))) else (sapperlaw13_SuffixTurns.j0 k l1 a2 true))) else (sapperlaw13_SuffixTurns.j0 k l1 a2 true))) else (sapperlaw13_SuffixTurns.j0 k l1 a2 true))) else (sapperlaw13_SuffixTurns.j0 k l1 a2 true)) else (sapperlaw13_SuffixTurns.j0 k l1 a2 true)))))) else (none)) else (none))) = some r := h
 clear h
 replace H := Option.bind_eq_some_iff.mp H
 obtain ⟨t353, A40, H⟩ := H
 replace H : (if 0 ≤ (l0.length : Int) then (if (l0.length : Int) ≤ (t353.length : Int) then ((some (t353.take ((l0.length : Int) : Int).toNat : List Int)).bind fun y356 => ((suffix_Turn.f k y356).bind fun bt360 => ((suffix_Turn.f k y356).bind fun bt365 => ((sapperref13_Turn.f k l0).bind fun bt370 => (if bt360.2.2 = bt370.2.2 then (if bt360.2.1 = bt370.2.1 then ((sapperref01_Same.f bt360.1 bt370.1).bind fun t375 => (if t375 = true then ((sapperref01_Same.f bt365.1 bt370.1).bind fun t376 => (if t376 = true then ((sapperref01_Kept.f t353 l0).bind fun t377 => (if t377 = true then ((sapperref01_Own.f (([bt360.1, bt365.1] : List (List Int)))).bind fun t381 => (sapperlaw13_SuffixTurns.j0 k l1 a2 (!t381))) else (sapperlaw13_SuffixTurns.j0 k l1 a2 true))) else (sapperlaw13_SuffixTurns.j0 k l1 a2 true))) else (sapperlaw13_SuffixTurns.j0 k l1 a2 true))) else (sapperlaw13_SuffixTurns.j0 k l1 a2 true)) else (sapperlaw13_SuffixTurns.j0 k l1 a2 true)))))) else (none)) else (none)) = some r := H
 have A4 := Aside0.mk A40
 clear A40
 by_cases c5 : 0 ≤ (l0.length : Int)
 ·rw [if_pos c5] at H
  have c5b0 := eq_true c5
  have c5b1 : decide (0 ≤ (l0.length : Int)) = true := decide_eq_true c5
  clear c5
  by_cases c6 : (l0.length : Int) ≤ (t353.length : Int)
  ·rw [if_pos c6] at H
   have c6b0 := eq_true c6
   have c6b1 : decide ((l0.length : Int) ≤ (t353.length : Int)) = true := decide_eq_true c6
   clear c6
   obtain ⟨y356, hy356⟩ : ∃ y_ : List Int, y_ = (t353.take ((l0.length : Int) : Int).toNat) := ⟨_, rfl⟩
   replace H : ((suffix_Turn.f k y356).bind fun bt360 => ((suffix_Turn.f k y356).bind fun bt365 => ((sapperref13_Turn.f k l0).bind fun bt370 => (if bt360.2.2 = bt370.2.2 then (if bt360.2.1 = bt370.2.1 then ((sapperref01_Same.f bt360.1 bt370.1).bind fun t375 => (if t375 = true then ((sapperref01_Same.f bt365.1 bt370.1).bind fun t376 => (if t376 = true then ((sapperref01_Kept.f t353 l0).bind fun t377 => (if t377 = true then ((sapperref01_Own.f (([bt360.1, bt365.1] : List (List Int)))).bind fun t381 => (sapperlaw13_SuffixTurns.j0 k l1 a2 (!t381))) else (sapperlaw13_SuffixTurns.j0 k l1 a2 true))) else (sapperlaw13_SuffixTurns.j0 k l1 a2 true))) else (sapperlaw13_SuffixTurns.j0 k l1 a2 true))) else (sapperlaw13_SuffixTurns.j0 k l1 a2 true)) else (sapperlaw13_SuffixTurns.j0 k l1 a2 true))))) = some r := by first | (rw [hy356]; with_reducible exact H) | (have H2_ := (Option.bind_some _ _).symm.trans H; rw [hy356]; with_reducible exact H2_) | (have H2_ := (Option.bind_some _ _).symm.trans H; with_reducible exact H2_) | with_reducible exact H | (rw [hy356]; exact H) | exact H
   have Ny356 := Aside0.mk hy356
   clear hy356
   replace H := Option.bind_eq_some_iff.mp H
   obtain ⟨⟨t360, t361, t362⟩, A70, H⟩ := H
   replace H : ((suffix_Turn.f k y356).bind fun bt365 => ((sapperref13_Turn.f k l0).bind fun bt370 => (if t362 = bt370.2.2 then (if t361 = bt370.2.1 then ((sapperref01_Same.f t360 bt370.1).bind fun t375 => (if t375 = true then ((sapperref01_Same.f bt365.1 bt370.1).bind fun t376 => (if t376 = true then ((sapperref01_Kept.f t353 l0).bind fun t377 => (if t377 = true then ((sapperref01_Own.f (([t360, bt365.1] : List (List Int)))).bind fun t381 => (sapperlaw13_SuffixTurns.j0 k l1 a2 (!t381))) else (sapperlaw13_SuffixTurns.j0 k l1 a2 true))) else (sapperlaw13_SuffixTurns.j0 k l1 a2 true))) else (sapperlaw13_SuffixTurns.j0 k l1 a2 true))) else (sapperlaw13_SuffixTurns.j0 k l1 a2 true)) else (sapperlaw13_SuffixTurns.j0 k l1 a2 true)))) = some r := H
   have A7 := Aside0.mk A70
   clear A70
   replace H := Option.bind_eq_some_iff.mp H
   obtain ⟨⟨t365, t366, t367⟩, A80, H⟩ := H
   replace H : ((sapperref13_Turn.f k l0).bind fun bt370 => (if t362 = bt370.2.2 then (if t361 = bt370.2.1 then ((sapperref01_Same.f t360 bt370.1).bind fun t375 => (if t375 = true then ((sapperref01_Same.f t365 bt370.1).bind fun t376 => (if t376 = true then ((sapperref01_Kept.f t353 l0).bind fun t377 => (if t377 = true then ((sapperref01_Own.f (([t360, t365] : List (List Int)))).bind fun t381 => (sapperlaw13_SuffixTurns.j0 k l1 a2 (!t381))) else (sapperlaw13_SuffixTurns.j0 k l1 a2 true))) else (sapperlaw13_SuffixTurns.j0 k l1 a2 true))) else (sapperlaw13_SuffixTurns.j0 k l1 a2 true))) else (sapperlaw13_SuffixTurns.j0 k l1 a2 true)) else (sapperlaw13_SuffixTurns.j0 k l1 a2 true))) = some r := H
   have A8 := Aside0.mk A80
   clear A80
   replace H := Option.bind_eq_some_iff.mp H
   obtain ⟨⟨t370, t371, t372⟩, A90, H⟩ := H
   replace H : (if t362 = t372 then (if t361 = t371 then ((sapperref01_Same.f t360 t370).bind fun t375 => (if t375 = true then ((sapperref01_Same.f t365 t370).bind fun t376 => (if t376 = true then ((sapperref01_Kept.f t353 l0).bind fun t377 => (if t377 = true then ((sapperref01_Own.f (([t360, t365] : List (List Int)))).bind fun t381 => (sapperlaw13_SuffixTurns.j0 k l1 a2 (!t381))) else (sapperlaw13_SuffixTurns.j0 k l1 a2 true))) else (sapperlaw13_SuffixTurns.j0 k l1 a2 true))) else (sapperlaw13_SuffixTurns.j0 k l1 a2 true))) else (sapperlaw13_SuffixTurns.j0 k l1 a2 true)) else (sapperlaw13_SuffixTurns.j0 k l1 a2 true)) = some r := H
   have A9 := Aside0.mk A90
   clear A90
   have HC10 := Aside0.mk H
   clear H
   go_enter Try.func9, Try.ntmps9
   go_upto_region 5 with (first | ((with_reducible refine gate_callee (f := 22) rfl ?_); refine goesL_ (some 24) rfl rfl Try.func22 (by kernel_rfl) rfl #[.slice A0 l0.length c0] rfl (by (try simp only [List.map_toArray, List.map_cons, List.map_nil]); first | done | rfl | (simp only [List.length_drop, List.length_take]; rfl)) ?_; (with_reducible refine (sapperref01_Lend.calls _ _ l0 t353 _ ?side1 ?side2 A4.out).mono ?_); (case side1 => repeat (first | exact HR0.out | (with_reducible first|refine Qd ?_ _|refine Qe ?_ _|refine Qf ?_))); (case side2 => exact HC0.out); rintro e w11 ⟨v354, rfl, ho0, hb⟩; refine ⟨_, rfl, ?_⟩; have n0_ := Aside0.mk (Kd.R_lower ho0 (below_size (by repeat first|(with_reducible first|exact HB.out|apply Qg|apply Qh|apply Qi)|exact HB.out))); have n1_ := Aside0.mk (below_step (by repeat first|(with_reducible first|exact HB.out|apply Qg|apply Qh|apply Qi)|exact HB.out) hb); clear HB; have HO355 := n0_; have HB := n1_; clear n0_ n1_; (try clear hb); (try clear hb2); (try clear hk); (try clear hi); (try clear ho0); obtain ⟨Ao13, co13, eo13⟩ := Kd.R_slice HO355.out; subst eo13; have q12 : ((l0.length : Int) : Int) ≤ ((t353.length : Int) : Int) := Qt; obtain ⟨i012, hi012, _, hsz12, _⟩ := info_parts info5; have hroom12 : t353.length ≤ co13 := (Kd.R_reads' HO355.out).2.1; have hC12 : Kd.C (Kd.int .u8) _ Ao13 t353.length t353 := (Kd.R_reads' HO355.out).2.2; have hcut12 := cut_to (P := Try.prog) 23 5 .i64 Try.underlying23 hi012 Ao13 t353.length co13 (l0.length : Int) (Qt) q12 hroom12; have hr12 := Kd.C_take (m := ((l0.length : Int) : Int).toNat) hC12 (by omega); have hy12 : y356.length = ((l0.length : Int) : Int).toNat := (by rw [Ny356.out, List.length_take]; omega); rw [← Ny356.out] at hr12; rw [← hy12] at hcut12; have HR359 := Aside0.mk hr12; have HC359 := Aside0.mk (show y356.length ≤ co13 from by omega); clear hr12 hC12 hroom12 hi012 hsz12; have KY12 := Aside0.mk hy12; clear hy12; have hpc12 : cutOf (.slice Ao13 t353.length co13) l0.length = .slice Ao13 y356.length co13 := (by rw [KY12.out, Int.toNat_natCast]; rfl); have KL12 := Aside0.mk (show ((l0.length : Int) : Int).toNat ≤ t353.length from by omega); replace q12 := eq_true q12) | ((with_reducible refine gate_callee (f := 33) rfl ?_); refine goesL_ (some 29) rfl rfl Try.func33 (by kernel_rfl) rfl #[.slice Ao13 y356.length co13] rfl (by (try simp only [List.map_toArray, List.map_cons, List.map_nil]); first | done | rfl | (simp only [List.length_drop, List.length_take]; rfl)) ?_; (with_reducible refine (suffix_Turn.calls k _ _ y356 t360 t361 t362 _ ?side1 ?side2 A7.out).mono ?_); (case side1 => repeat (first | exact (by repeat (first | (with_reducible exact HR359.out) | (with_reducible first|refine Qd ?_ _|refine Qe ?_ _|refine Qf ?_) | exact HR359.out)) | (with_reducible first|refine Qd ?_ _|refine Qe ?_ _|refine Qf ?_))); (case side2 => exact HC359.out); rintro e w14 ⟨v363, rfl, ho0, hb⟩; refine ⟨_, rfl, ?_⟩; have n0_ := Aside0.mk (Kd.R_elder' (by (with_reducible repeat first|apply Qa|apply Qb|apply Qc); exact HO355.out) (Kd.R_base ho0) hb); have n1_ := Aside0.mk (Kd.R_lower (Kd.R_new' ho0 (Kd.R_lt (by (with_reducible repeat first|apply Qa|apply Qb|apply Qc); exact HO355.out))) (below_size (by repeat first|(with_reducible first|exact HB.out|apply Qg|apply Qh|apply Qi)|exact HB.out))); have n2_ := Aside0.mk (Kd.C_below (by repeat (first | (with_reducible exact HR359.out) | (with_reducible first|refine Qd ?_ _|refine Qe ?_ _|refine Qf ?_) | exact HR359.out)) hb); have n3_ := Aside0.mk (below_step (by repeat first|(with_reducible first|exact HB.out|apply Qg|apply Qh|apply Qi)|exact HB.out) hb); clear HO355; clear HR359; clear HB; have HO355 := n0_; have HO364 := n1_; have HR359 := n2_; have HB := n3_; clear n0_ n1_ n2_ n3_; (try clear hb); (try clear hb2); (try clear hk); (try clear hi); (try clear ho0)) | ((with_reducible refine gate_callee (f := 33) rfl ?_); refine goesL_ (some 35) rfl rfl Try.func33 (by kernel_rfl) rfl #[.slice Ao13 y356.length co13] rfl (by (try simp only [List.map_toArray, List.map_cons, List.map_nil]); first | done | rfl | (simp only [List.length_drop, List.length_take]; rfl)) ?_; (with_reducible refine (suffix_Turn.calls k _ _ y356 t365 t366 t367 _ ?side1 ?side2 A8.out).mono ?_); (case side1 => repeat (first | exact (by repeat (first | (with_reducible exact HR359.out) | (with_reducible first|refine Qd ?_ _|refine Qe ?_ _|refine Qf ?_) | exact HR359.out)) | (with_reducible first|refine Qd ?_ _|refine Qe ?_ _|refine Qf ?_))); (case side2 => exact HC359.out); rintro e w15 ⟨v368, rfl, ho0, hb⟩; refine ⟨_, rfl, ?_⟩; have n0_ := Aside0.mk (Kd.R_elder' (by (with_reducible repeat first|apply Qa|apply Qb|apply Qc); exact HO355.out) (Kd.R_base ho0) hb); have n1_ := Aside0.mk (Kd.R_elder' (by (with_reducible repeat first|apply Qa|apply Qb|apply Qc); exact HO364.out) (Kd.R_base ho0) hb); have n2_ := Aside0.mk (Kd.R_lower (Kd.R_new' (Kd.R_new' ho0 (Kd.R_lt (by (with_reducible repeat first|apply Qa|apply Qb|apply Qc); exact HO355.out))) (Kd.R_lt (by (with_reducible repeat first|apply Qa|apply Qb|apply Qc); exact HO364.out))) (below_size (by repeat first|(with_reducible first|exact HB.out|apply Qg|apply Qh|apply Qi)|exact HB.out))); have n4_ := Aside0.mk (below_step (by repeat first|(with_reducible first|exact HB.out|apply Qg|apply Qh|apply Qi)|exact HB.out) hb); clear HO355; clear HO364; (try clear HR359); clear HB; have HO355 := n0_; have HO364 := n1_; have HO369 := n2_; have HB := n4_; clear n0_ n1_ n2_ n4_; (try clear hb); (try clear hb2); (try clear hk); (try clear hi); (try clear ho0)) | ((with_reducible refine gate_callee (f := 34) rfl ?_); refine goesL_ (some 41) rfl rfl Try.func34 (by kernel_rfl) rfl #[.slice A0 l0.length c0] rfl (by (try simp only [List.map_toArray, List.map_cons, List.map_nil]); first | done | rfl | (simp only [List.length_drop, List.length_take]; rfl)) ?_; (with_reducible refine (sapperref13_Turn.calls k _ _ l0 t370 t371 t372 _ ?side1 ?side2 A9.out).mono ?_); (case side1 => repeat (first | exact (Kd.C_below HR0.out HB.out) | (with_reducible first|refine Qd ?_ _|refine Qe ?_ _|refine Qf ?_))); (case side2 => exact HC0.out); rintro e w16 ⟨v373, rfl, ho0, hb⟩; refine ⟨_, rfl, ?_⟩; have n0_ := Aside0.mk (Kd.R_elder' (by (with_reducible repeat first|apply Qa|apply Qb|apply Qc); exact HO355.out) (Kd.R_base ho0) hb); have n1_ := Aside0.mk (Kd.R_elder' (by (with_reducible repeat first|apply Qa|apply Qb|apply Qc); exact HO364.out) (Kd.R_base ho0) hb); have n2_ := Aside0.mk (Kd.R_elder' (by (with_reducible repeat first|apply Qa|apply Qb|apply Qc); exact HO369.out) (Kd.R_base ho0) hb); have n3_ := Aside0.mk (Kd.R_lower (Kd.R_new' (Kd.R_new' (Kd.R_new' ho0 (Kd.R_lt (by (with_reducible repeat first|apply Qa|apply Qb|apply Qc); exact HO355.out))) (Kd.R_lt (by (with_reducible repeat first|apply Qa|apply Qb|apply Qc); exact HO364.out))) (Kd.R_lt (by (with_reducible repeat first|apply Qa|apply Qb|apply Qc); exact HO369.out))) (below_size (by repeat first|(with_reducible first|exact HB.out|apply Qg|apply Qh|apply Qi)|exact HB.out))); have n5_ := Aside0.mk (below_step (by repeat first|(with_reducible first|exact HB.out|apply Qg|apply Qh|apply Qi)|exact HB.out) hb); clear HO355; clear HO364; clear HO369; (try clear HR359); clear HB; have HO355 := n0_; have HO364 := n1_; have HO369 := n2_; have HO374 := n3_; have HB := n5_; clear n0_ n1_ n2_ n3_ n5_; (try clear hb); (try clear hb2); (try clear hk); (try clear hi); (try clear ho0)))
   (try simp only [Act.put, List.setIfInBounds_toArray, List.set_cons_zero, List.set_cons_succ])
   go_cut [77] (fun v77 wc => ∃ (kq : Nat) (x77_9 : Bool), v77 = .bool x77_9 ∧ Aside0 (sapperlaw13_SuffixTurns.j0 kq l1 a2 x77_9 = some r) ∧ Aside0 (kq ≤ k) ∧ Aside0 (Below w.heap.size w wc))
   case first =>
    have H := HC10.out
    clear HC10
    by_cases c17 : t362 = t372
    ·rw [if_pos c17] at H
     have c17b0 : (t362 == t372) = true := beq_iff_eq.mpr c17
     have c17b1 : (t362 != t372) = false := bne_eq_false_iff_eq.mpr c17
     clear c17
     (first | rw [c17b0] | rw [c17b1] | (simp only [i64_w, i32_w]; rw [c17b0]) | skip)
     by_cases c18 : t361 = t371
     ·rw [if_pos c18] at H
      have c18b0 : (t361 == t371) = true := beq_iff_eq.mpr c18
      have c18b1 : (t361 != t371) = false := bne_eq_false_iff_eq.mpr c18
      clear c18
      replace H := Option.bind_eq_some_iff.mp H
      obtain ⟨t375, A190, H⟩ := H
      replace H : (if t375 = true then ((sapperref01_Same.f t365 t370).bind fun t376 => (if t376 = true then ((sapperref01_Kept.f t353 l0).bind fun t377 => (if t377 = true then ((sapperref01_Own.f (([t360, t365] : List (List Int)))).bind fun t381 => (sapperlaw13_SuffixTurns.j0 k l1 a2 (!t381))) else (sapperlaw13_SuffixTurns.j0 k l1 a2 true))) else (sapperlaw13_SuffixTurns.j0 k l1 a2 true))) else (sapperlaw13_SuffixTurns.j0 k l1 a2 true)) = some r := H
      have A19 := Aside0.mk A190
      clear A190
      by_cases c20 : t375 = true
      ·subst c20
       have H1 : ((sapperref01_Same.f t365 t370).bind fun t376 => (if t376 = true then ((sapperref01_Kept.f t353 l0).bind fun t377 => (if t377 = true then ((sapperref01_Own.f (([t360, t365] : List (List Int)))).bind fun t381 => (sapperlaw13_SuffixTurns.j0 k l1 a2 (!t381))) else (sapperlaw13_SuffixTurns.j0 k l1 a2 true))) else (sapperlaw13_SuffixTurns.j0 k l1 a2 true))) = some r := by rw [if_pos rfl] at H; exact H
       clear H
       have H := H1
       clear H1
       replace H := Option.bind_eq_some_iff.mp H
       obtain ⟨t376, A210, H⟩ := H
       replace H : (if t376 = true then ((sapperref01_Kept.f t353 l0).bind fun t377 => (if t377 = true then ((sapperref01_Own.f (([t360, t365] : List (List Int)))).bind fun t381 => (sapperlaw13_SuffixTurns.j0 k l1 a2 (!t381))) else (sapperlaw13_SuffixTurns.j0 k l1 a2 true))) else (sapperlaw13_SuffixTurns.j0 k l1 a2 true)) = some r := H
       have A21 := Aside0.mk A210
       clear A210
       by_cases c22 : t376 = true
       ·subst c22
        have H1 : ((sapperref01_Kept.f t353 l0).bind fun t377 => (if t377 = true then ((sapperref01_Own.f (([t360, t365] : List (List Int)))).bind fun t381 => (sapperlaw13_SuffixTurns.j0 k l1 a2 (!t381))) else (sapperlaw13_SuffixTurns.j0 k l1 a2 true))) = some r := by rw [if_pos rfl] at H; exact H
        clear H
        have H := H1
        clear H1
        replace H := Option.bind_eq_some_iff.mp H
        obtain ⟨t377, A230, H⟩ := H
        replace H : (if t377 = true then ((sapperref01_Own.f (([t360, t365] : List (List Int)))).bind fun t381 => (sapperlaw13_SuffixTurns.j0 k l1 a2 (!t381))) else (sapperlaw13_SuffixTurns.j0 k l1 a2 true)) = some r := H
        have A23 := Aside0.mk A230
        clear A230
        by_cases c24 : t377 = true
        ·subst c24
         have H1 : ((sapperref01_Own.f (([t360, t365] : List (List Int)))).bind fun t381 => (sapperlaw13_SuffixTurns.j0 k l1 a2 (!t381))) = some r := by rw [if_pos rfl] at H; exact H
         clear H
         have H := H1
         clear H1
         obtain ⟨y378, hy378⟩ : ∃ y_ : List (List Int), y_ = (([t360, t365] : List (List Int))) := ⟨_, rfl⟩
         replace H : ((sapperref01_Own.f y378).bind fun t381 => (sapperlaw13_SuffixTurns.j0 k l1 a2 (!t381))) = some r := by first | (rw [hy378]; with_reducible exact H) | (have H2_ := (Option.bind_some _ _).symm.trans H; rw [hy378]; with_reducible exact H2_) | (have H2_ := (Option.bind_some _ _).symm.trans H; with_reducible exact H2_) | with_reducible exact H | (rw [hy378]; exact H) | exact H
         have Ny378 := Aside0.mk hy378
         clear hy378
         replace H := Option.bind_eq_some_iff.mp H
         obtain ⟨t381, A250, H⟩ := H
         replace H : (sapperlaw13_SuffixTurns.j0 k l1 a2 (!t381)) = some r := H
         have A25 := Aside0.mk A250
         clear A250
         have H' := Aside0.mk H
         clear H
         obtain ⟨Ao26, co26, eo26⟩ := Kd.R_slice HO364.out
         subst eo26
         obtain ⟨Ao27, co27, eo27⟩ := Kd.R_slice HO374.out
         subst eo27
         go_wp2_with (first | (go_at_call 35; (with_reducible refine (sapperref01_Same.calls _ _ t360 _ _ t370 true _ ?side1 ?side2 ?side3 ?side4 A19.out).mono ?_); (case side1 => repeat (first | exact (Kd.R_reads' HO364.out).2.2 | (with_reducible first|refine Qd ?_ _|refine Qe ?_ _|refine Qf ?_))); (case side2 => exact (Kd.R_reads' HO364.out).2.1); (case side3 => repeat (first | exact (Kd.R_reads' HO374.out).2.2 | (with_reducible first|refine Qd ?_ _|refine Qe ?_ _|refine Qf ?_))); (case side4 => exact (Kd.R_reads' HO374.out).2.1); rintro e w' ⟨rfl, ⟨nd, rfl⟩⟩; obtain ⟨Ao28, co28, eo28⟩ := Kd.R_slice HO369.out; subst eo28) | (go_at_call 35; (with_reducible refine (sapperref01_Same.calls _ _ t365 _ _ t370 true _ ?side1 ?side2 ?side3 ?side4 A21.out).mono ?_); (case side1 => repeat (first | exact (Kd.R_reads' HO369.out).2.2 | (with_reducible first|refine Qd ?_ _|refine Qe ?_ _|refine Qf ?_))); (case side2 => exact (Kd.R_reads' HO369.out).2.1); (case side3 => repeat (first | exact (Kd.R_reads' HO374.out).2.2 | (with_reducible first|refine Qd ?_ _|refine Qe ?_ _|refine Qf ?_))); (case side4 => exact (Kd.R_reads' HO374.out).2.1); rintro e w' ⟨rfl, ⟨nd, rfl⟩⟩) | (go_at_call 27; (with_reducible refine (sapperref01_Kept.calls _ _ t353 _ _ l0 true _ ?side1 ?side2 ?side3 ?side4 A23.out).mono ?_); (case side1 => repeat (first | exact (Kd.R_reads' HO355.out).2.2 | (with_reducible first|refine Qd ?_ _|refine Qe ?_ _|refine Qf ?_))); (case side2 => exact (Kd.R_reads' HO355.out).2.1); (case side3 => repeat (first | exact (Kd.C_below HR0.out (by repeat first|(with_reducible first|exact HB.out|apply Qg|apply Qh|apply Qi)|exact HB.out)) | (with_reducible first|refine Qd ?_ _|refine Qe ?_ _|refine Qf ?_))); (case side4 => exact HC0.out); rintro e w29 ⟨rfl, hb⟩; have n1_ := Aside0.mk (Kd.R_below (by (with_reducible repeat first|apply Qa|apply Qb|apply Qc); exact HO364.out) hb); have n2_ := Aside0.mk (Kd.R_below (by (with_reducible repeat first|apply Qa|apply Qb|apply Qc); exact HO369.out) hb); have n5_ := Aside0.mk (below_step (by repeat first|(with_reducible first|exact HB.out|apply Qg|apply Qh|apply Qi)|exact HB.out) hb); (try clear HO355); clear HO364; clear HO369; (try clear HO374); (try clear HR359); clear HB; have HO364 := n1_; have HO369 := n2_; have HB := n5_; clear n1_ n2_ n5_; (try clear hb); (try clear hb2); (try clear hk); (try clear hi)) | (go_at_call 36; refine (own_lit HB.out HO364.out HO369.out (fun _ hk => by first | exact hk.2 | exact hk.1.2 | exact hk.1.1.2) A25.out Ny378.out).mono ?_; rintro e w33 ⟨rfl, hb⟩; have n9_ := Aside0.mk hb; clear HB; have HB := n9_; clear n9_ hb))
         go_meet
         case rel => exact ⟨_, (!t381), (by first | rfl | (simp; done) | (simp [*]; done)), H', ⟨by first | omega | exact Nat.le_refl _⟩, ⟨by repeat first|(with_reducible first|exact HB.out|apply Qg|apply Qh|apply Qi)|exact HB.out⟩⟩
        ·replace c24 := Bool.eq_false_iff.mpr c24
         subst c24
         have H1 : (sapperlaw13_SuffixTurns.j0 k l1 a2 true) = some r := by rw [if_neg (show ¬ (false = true) by decide)] at H; exact H
         clear H
         have H := H1
         clear H1
         have H' := Aside0.mk H
         clear H
         obtain ⟨Ao34, co34, eo34⟩ := Kd.R_slice HO364.out
         subst eo34
         obtain ⟨Ao35, co35, eo35⟩ := Kd.R_slice HO374.out
         subst eo35
         go_wp2_with (first | (go_at_call 35; (with_reducible refine (sapperref01_Same.calls _ _ t360 _ _ t370 true _ ?side1 ?side2 ?side3 ?side4 A19.out).mono ?_); (case side1 => repeat (first | exact (Kd.R_reads' HO364.out).2.2 | (with_reducible first|refine Qd ?_ _|refine Qe ?_ _|refine Qf ?_))); (case side2 => exact (Kd.R_reads' HO364.out).2.1); (case side3 => repeat (first | exact (Kd.R_reads' HO374.out).2.2 | (with_reducible first|refine Qd ?_ _|refine Qe ?_ _|refine Qf ?_))); (case side4 => exact (Kd.R_reads' HO374.out).2.1); rintro e w' ⟨rfl, ⟨nd, rfl⟩⟩; obtain ⟨Ao36, co36, eo36⟩ := Kd.R_slice HO369.out; subst eo36) | (go_at_call 35; (with_reducible refine (sapperref01_Same.calls _ _ t365 _ _ t370 true _ ?side1 ?side2 ?side3 ?side4 A21.out).mono ?_); (case side1 => repeat (first | exact (Kd.R_reads' HO369.out).2.2 | (with_reducible first|refine Qd ?_ _|refine Qe ?_ _|refine Qf ?_))); (case side2 => exact (Kd.R_reads' HO369.out).2.1); (case side3 => repeat (first | exact (Kd.R_reads' HO374.out).2.2 | (with_reducible first|refine Qd ?_ _|refine Qe ?_ _|refine Qf ?_))); (case side4 => exact (Kd.R_reads' HO374.out).2.1); rintro e w' ⟨rfl, ⟨nd, rfl⟩⟩) | (go_at_call 27; (with_reducible refine (sapperref01_Kept.calls _ _ t353 _ _ l0 false _ ?side1 ?side2 ?side3 ?side4 A23.out).mono ?_); (case side1 => repeat (first | exact (Kd.R_reads' HO355.out).2.2 | (with_reducible first|refine Qd ?_ _|refine Qe ?_ _|refine Qf ?_))); (case side2 => exact (Kd.R_reads' HO355.out).2.1); (case side3 => repeat (first | exact (Kd.C_below HR0.out (by repeat first|(with_reducible first|exact HB.out|apply Qg|apply Qh|apply Qi)|exact HB.out)) | (with_reducible first|refine Qd ?_ _|refine Qe ?_ _|refine Qf ?_))); (case side4 => exact HC0.out); rintro e w37 ⟨rfl, hb⟩; have n5_ := Aside0.mk (below_step (by repeat first|(with_reducible first|exact HB.out|apply Qg|apply Qh|apply Qi)|exact HB.out) hb); (try clear HO355); (try clear HO364); (try clear HO369); (try clear HO374); (try clear HR359); clear HB; have HB := n5_; clear n5_; (try clear hb); (try clear hb2); (try clear hk); (try clear hi)))
         go_meet
         case rel => exact ⟨_, (true), (by first | rfl | (simp; done) | (simp [*]; done)), H', ⟨by first | omega | exact Nat.le_refl _⟩, ⟨by repeat first|(with_reducible first|exact HB.out|apply Qg|apply Qh|apply Qi)|exact HB.out⟩⟩
       ·replace c22 := Bool.eq_false_iff.mpr c22
        subst c22
        have H1 : (sapperlaw13_SuffixTurns.j0 k l1 a2 true) = some r := by rw [if_neg (show ¬ (false = true) by decide)] at H; exact H
        clear H
        have H := H1
        clear H1
        have H' := Aside0.mk H
        clear H
        obtain ⟨Ao38, co38, eo38⟩ := Kd.R_slice HO364.out
        subst eo38
        obtain ⟨Ao39, co39, eo39⟩ := Kd.R_slice HO374.out
        subst eo39
        go_wp2_with (first | (go_at_call 35; (with_reducible refine (sapperref01_Same.calls _ _ t360 _ _ t370 true _ ?side1 ?side2 ?side3 ?side4 A19.out).mono ?_); (case side1 => repeat (first | exact (Kd.R_reads' HO364.out).2.2 | (with_reducible first|refine Qd ?_ _|refine Qe ?_ _|refine Qf ?_))); (case side2 => exact (Kd.R_reads' HO364.out).2.1); (case side3 => repeat (first | exact (Kd.R_reads' HO374.out).2.2 | (with_reducible first|refine Qd ?_ _|refine Qe ?_ _|refine Qf ?_))); (case side4 => exact (Kd.R_reads' HO374.out).2.1); rintro e w' ⟨rfl, ⟨nd, rfl⟩⟩; obtain ⟨Ao40, co40, eo40⟩ := Kd.R_slice HO369.out; subst eo40) | (go_at_call 35; (with_reducible refine (sapperref01_Same.calls _ _ t365 _ _ t370 false _ ?side1 ?side2 ?side3 ?side4 A21.out).mono ?_); (case side1 => repeat (first | exact (Kd.R_reads' HO369.out).2.2 | (with_reducible first|refine Qd ?_ _|refine Qe ?_ _|refine Qf ?_))); (case side2 => exact (Kd.R_reads' HO369.out).2.1); (case side3 => repeat (first | exact (Kd.R_reads' HO374.out).2.2 | (with_reducible first|refine Qd ?_ _|refine Qe ?_ _|refine Qf ?_))); (case side4 => exact (Kd.R_reads' HO374.out).2.1); rintro e w' ⟨rfl, ⟨nd, rfl⟩⟩))
        go_meet
        case rel => exact ⟨_, (true), (by first | rfl | (simp; done) | (simp [*]; done)), H', ⟨by first | omega | exact Nat.le_refl _⟩, ⟨by repeat first|(with_reducible first|exact HB.out|apply Qg|apply Qh|apply Qi)|exact HB.out⟩⟩
      ·replace c20 := Bool.eq_false_iff.mpr c20
       subst c20
       have H1 : (sapperlaw13_SuffixTurns.j0 k l1 a2 true) = some r := by rw [if_neg (show ¬ (false = true) by decide)] at H; exact H
       clear H
       have H := H1
       clear H1
       have H' := Aside0.mk H
       clear H
       obtain ⟨Ao41, co41, eo41⟩ := Kd.R_slice HO364.out
       subst eo41
       obtain ⟨Ao42, co42, eo42⟩ := Kd.R_slice HO374.out
       subst eo42
       go_wp2_with (first | (go_at_call 35; (with_reducible refine (sapperref01_Same.calls _ _ t360 _ _ t370 false _ ?side1 ?side2 ?side3 ?side4 A19.out).mono ?_); (case side1 => repeat (first | exact (Kd.R_reads' HO364.out).2.2 | (with_reducible first|refine Qd ?_ _|refine Qe ?_ _|refine Qf ?_))); (case side2 => exact (Kd.R_reads' HO364.out).2.1); (case side3 => repeat (first | exact (Kd.R_reads' HO374.out).2.2 | (with_reducible first|refine Qd ?_ _|refine Qe ?_ _|refine Qf ?_))); (case side4 => exact (Kd.R_reads' HO374.out).2.1); rintro e w' ⟨rfl, ⟨nd, rfl⟩⟩))
       go_meet
       case rel => exact ⟨_, (true), (by first | rfl | (simp; done) | (simp [*]; done)), H', ⟨by first | omega | exact Nat.le_refl _⟩, ⟨by repeat first|(with_reducible first|exact HB.out|apply Qg|apply Qh|apply Qi)|exact HB.out⟩⟩
     ·rw [if_neg c18] at H
      have c18b0 : (t361 == t371) = false := beq_eq_false_iff_ne.mpr c18
      have c18b1 : (t361 != t371) = true := bne_iff_ne.mpr c18
      have H' := Aside0.mk H
      clear H
      go_wp2
      go_meet
      case rel => exact ⟨_, (true), (by first | rfl | (simp; done) | (simp [*]; done)), H', ⟨by first | omega | exact Nat.le_refl _⟩, ⟨by repeat first|(with_reducible first|exact HB.out|apply Qg|apply Qh|apply Qi)|exact HB.out⟩⟩
    ·rw [if_neg c17] at H
     have c17b0 : (t362 == t372) = false := beq_eq_false_iff_ne.mpr c17
     have c17b1 : (t362 != t372) = true := bne_iff_ne.mpr c17
     (first | rw [c17b0] | rw [c17b1] | (simp only [i64_w, i32_w]; rw [c17b0]) | skip)
     have H' := Aside0.mk H
     clear H
     go_wp2
     go_meet
     case rel => exact ⟨_, (true), (by first | rfl | (simp; done) | (simp [*]; done)), H', ⟨by first | omega | exact Nat.le_refl _⟩, ⟨by repeat first|(with_reducible first|exact HB.out|apply Qg|apply Qh|apply Qi)|exact HB.out⟩⟩
   case rest =>
    clear HC10
    try clear c1
    try clear q1
    try clear c2
    try clear p2
    try clear c3
    try clear c5
    try clear c5b0
    try clear c5b1
    try clear c6
    try clear c6b0
    try clear c6b1
    try clear c9
    try clear c12
    try clear q12
    try clear c17
    try clear c17b0
    try clear c17b1
    try clear c18
    try clear c18b0
    try clear c18b1
    try clear c20
    try clear c22
    try clear c24
    try clear c33
    try clear c34
    try clear q12
    obtain ⟨kq, x77_9, rfl, HA, HJ9, HB⟩ := hcut
    cases kq with
    | zero => exact absurd HA.out (by simp [sapperlaw13_SuffixTurns.j0])
    | succ kj9 =>
     have H := HA.out
     clear HA
     simp only [sapperlaw13_SuffixTurns.j0] at H
     by_cases c43 : x77_9 = true
     ·subst c43
      have H1 : (some false) = some r := by rw [if_pos rfl] at H; exact H
      clear H
      have H := H1
      clear H1
      obtain rfl := Option.some.inj H
      go_wp2
      go_ret
      exact ⟨by first | rfl | (simp [errW_none, errW_some] <;> rfl) | (simp [*, errW_none, errW_some] <;> rfl), by repeat first|(with_reducible first|exact HB.out|apply Qg|apply Qh|apply Qi)|exact HB.out⟩
     ·replace c43 := Bool.eq_false_iff.mpr c43
      subst c43
      have H1 : ((sapperref01_Lend.f l1).bind fun t382 => (if 0 ≤ (l1.length : Int) then (if (l1.length : Int) ≤ (t382.length : Int) then ((suffix_Unturn.f (t382.take ((l1.length : Int) : Int).toNat) a2).bind fun bt389 => ((sapperref13_Unturn.f kj9 l1 a2).bind fun bt393 => (if bt389.2 = bt393.2 then ((sapperref01_Same.f bt389.1 bt393.1).bind fun t397 => (if t397 = true then ((sapperref01_Kept.f t382 l1).bind fun t398 => (if t398 = true then ((sapperlaw13_lives.f kj9).bind fun t399 => (some t399)) else (some false))) else (some false))) else (some false)))) else (none)) else (none))) = some r := by rw [if_neg (show ¬ (false = true) by decide)] at H; exact H
      clear H
      have H := H1
      clear H1
      replace H := Option.bind_eq_some_iff.mp H
      obtain ⟨t382, A440, H⟩ := H
      replace H : (if 0 ≤ (l1.length : Int) then (if (l1.length : Int) ≤ (t382.length : Int) then ((suffix_Unturn.f (t382.take ((l1.length : Int) : Int).toNat) a2).bind fun bt389 => ((sapperref13_Unturn.f kj9 l1 a2).bind fun bt393 => (if bt389.2 = bt393.2 then ((sapperref01_Same.f bt389.1 bt393.1).bind fun t397 => (if t397 = true then ((sapperref01_Kept.f t382 l1).bind fun t398 => (if t398 = true then ((sapperlaw13_lives.f kj9).bind fun t399 => (some t399)) else (some false))) else (some false))) else (some false)))) else (none)) else (none)) = some r := H
      have A44 := Aside0.mk A440
      clear A440
      by_cases c45 : 0 ≤ (l1.length : Int)
      ·rw [if_pos c45] at H
       have c45b0 := eq_true c45
       have c45b1 : decide (0 ≤ (l1.length : Int)) = true := decide_eq_true c45
       clear c45
       by_cases c46 : (l1.length : Int) ≤ (t382.length : Int)
       ·rw [if_pos c46] at H
        have c46b0 := eq_true c46
        have c46b1 : decide ((l1.length : Int) ≤ (t382.length : Int)) = true := decide_eq_true c46
        clear c46
        obtain ⟨y385, hy385⟩ : ∃ y_ : List Int, y_ = (t382.take ((l1.length : Int) : Int).toNat) := ⟨_, rfl⟩
        replace H : ((suffix_Unturn.f y385 a2).bind fun bt389 => ((sapperref13_Unturn.f kj9 l1 a2).bind fun bt393 => (if bt389.2 = bt393.2 then ((sapperref01_Same.f bt389.1 bt393.1).bind fun t397 => (if t397 = true then ((sapperref01_Kept.f t382 l1).bind fun t398 => (if t398 = true then ((sapperlaw13_lives.f kj9).bind fun t399 => (some t399)) else (some false))) else (some false))) else (some false)))) = some r := by first | (rw [hy385]; with_reducible exact H) | (have H2_ := (Option.bind_some _ _).symm.trans H; rw [hy385]; with_reducible exact H2_) | (have H2_ := (Option.bind_some _ _).symm.trans H; with_reducible exact H2_) | with_reducible exact H | (rw [hy385]; exact H) | exact H
        have Ny385 := Aside0.mk hy385
        clear hy385
        replace H := Option.bind_eq_some_iff.mp H
        obtain ⟨⟨t389, t390⟩, A470, H⟩ := H
        replace H : ((sapperref13_Unturn.f kj9 l1 a2).bind fun bt393 => (if t390 = bt393.2 then ((sapperref01_Same.f t389 bt393.1).bind fun t397 => (if t397 = true then ((sapperref01_Kept.f t382 l1).bind fun t398 => (if t398 = true then ((sapperlaw13_lives.f kj9).bind fun t399 => (some t399)) else (some false))) else (some false))) else (some false))) = some r := H
        have A47 := Aside0.mk A470
        clear A470
        replace H := Option.bind_eq_some_iff.mp H
        obtain ⟨⟨t393, t394⟩, A480, H⟩ := H
        replace H : (if t390 = t394 then ((sapperref01_Same.f t389 t393).bind fun t397 => (if t397 = true then ((sapperref01_Kept.f t382 l1).bind fun t398 => (if t398 = true then ((sapperlaw13_lives.f kj9).bind fun t399 => (some t399)) else (some false))) else (some false))) else (some false)) = some r := H
        have A48 := Aside0.mk A480
        clear A480
        by_cases c49 : t390 = t394
        ·rw [if_pos c49] at H
         have c49b0 : (t390 == t394) = true := beq_iff_eq.mpr c49
         have c49b1 : (t390 != t394) = false := bne_eq_false_iff_eq.mpr c49
         clear c49
         replace H := Option.bind_eq_some_iff.mp H
         obtain ⟨t397, A500, H⟩ := H
         replace H : (if t397 = true then ((sapperref01_Kept.f t382 l1).bind fun t398 => (if t398 = true then ((sapperlaw13_lives.f kj9).bind fun t399 => (some t399)) else (some false))) else (some false)) = some r := H
         have A50 := Aside0.mk A500
         clear A500
         by_cases c51 : t397 = true
         ·subst c51
          have H1 : ((sapperref01_Kept.f t382 l1).bind fun t398 => (if t398 = true then ((sapperlaw13_lives.f kj9).bind fun t399 => (some t399)) else (some false))) = some r := by rw [if_pos rfl] at H; exact H
          clear H
          have H := H1
          clear H1
          replace H := Option.bind_eq_some_iff.mp H
          obtain ⟨t398, A520, H⟩ := H
          replace H : (if t398 = true then ((sapperlaw13_lives.f kj9).bind fun t399 => (some t399)) else (some false)) = some r := H
          have A52 := Aside0.mk A520
          clear A520
          by_cases c53 : t398 = true
          ·subst c53
           have H1 : ((sapperlaw13_lives.f kj9).bind fun t399 => (some t399)) = some r := by rw [if_pos rfl] at H; exact H
           clear H
           have H := H1
           clear H1
           replace H := Option.bind_eq_some_iff.mp H
           obtain ⟨t399, A540, H⟩ := H
           replace H : (some t399) = some r := H
           have A54 := Aside0.mk A540
           clear A540
           obtain rfl := Option.some.inj H
           go_wp2_with (first | ((with_reducible refine gate_callee (f := 22) rfl ?_); refine goesL_ (some 80) rfl rfl Try.func22 (by kernel_rfl) rfl #[.slice A1 l1.length c1] rfl (by (try simp only [List.map_toArray, List.map_cons, List.map_nil]); first | done | rfl | (simp only [List.length_drop, List.length_take]; rfl)) ?_; (with_reducible refine (sapperref01_Lend.calls _ _ l1 t382 _ ?side1 ?side2 A44.out).mono ?_); (case side1 => repeat (first | exact (Kd.C_below HR1.out HB.out) | (with_reducible first|refine Qd ?_ _|refine Qe ?_ _|refine Qf ?_))); (case side2 => exact HC1.out); rintro e w55 ⟨v383, rfl, ho0, hb⟩; refine ⟨_, rfl, ?_⟩; have n0_ := Aside0.mk (Kd.R_lower ho0 (below_size (by repeat first|(with_reducible first|exact HB.out|apply Qg|apply Qh|apply Qi)|exact HB.out))); have n2_ := Aside0.mk (below_step (by repeat first|(with_reducible first|exact HB.out|apply Qg|apply Qh|apply Qi)|exact HB.out) hb); (try clear HR359); clear HB; have HO384 := n0_; have HB := n2_; clear n0_ n2_; (try clear hb); (try clear hb2); (try clear hk); (try clear hi); (try clear ho0); obtain ⟨Ao57, co57, eo57⟩ := Kd.R_slice HO384.out; subst eo57; have q56 : ((l1.length : Int) : Int) ≤ ((t382.length : Int) : Int) := Qt; obtain ⟨i056, hi056, _, hsz56, _⟩ := info_parts info5; have hroom56 : t382.length ≤ co57 := (Kd.R_reads' HO384.out).2.1; have hC56 : Kd.C (Kd.int .u8) _ Ao57 t382.length t382 := (Kd.R_reads' HO384.out).2.2; have hcut56 := cut_to (P := Try.prog) 23 5 .i64 Try.underlying23 hi056 Ao57 t382.length co57 (l1.length : Int) (Qt) q56 hroom56; have hr56 := Kd.C_take (m := ((l1.length : Int) : Int).toNat) hC56 (by omega); have hy56 : y385.length = ((l1.length : Int) : Int).toNat := (by rw [Ny385.out, List.length_take]; omega); rw [← Ny385.out] at hr56; rw [← hy56] at hcut56; have HR388 := Aside0.mk hr56; have HC388 := Aside0.mk (show y385.length ≤ co57 from by omega); clear hr56 hC56 hroom56 hi056 hsz56; have KY56 := Aside0.mk hy56; clear hy56; have hpc56 : cutOf (.slice Ao57 t382.length co57) l1.length = .slice Ao57 y385.length co57 := (by rw [KY56.out, Int.toNat_natCast]; rfl); have KL56 := Aside0.mk (show ((l1.length : Int) : Int).toNat ≤ t382.length from by omega); replace q56 := eq_true q56) | ((with_reducible refine gate_callee (f := 37) rfl ?_); refine goesL_ (some 86) rfl rfl Try.func37 (by kernel_rfl) rfl #[.slice Ao57 y385.length co57, .int .i64 a2] rfl (by (try simp only [List.map_toArray, List.map_cons, List.map_nil]); first | done | rfl | (simp only [List.length_drop, List.length_take]; rfl)) ?_; (with_reducible refine (suffix_Unturn.calls _ _ y385 a2 t389 t390 _ ?side1 ?side2 A47.out).mono ?_); (case side1 => repeat (first | exact (by repeat (first | (with_reducible exact HR388.out) | (with_reducible first|refine Qd ?_ _|refine Qe ?_ _|refine Qf ?_) | exact HR388.out)) | (with_reducible first|refine Qd ?_ _|refine Qe ?_ _|refine Qf ?_))); (case side2 => exact HC388.out); rintro e w58 ⟨v391, rfl, ho0, hb⟩; refine ⟨_, rfl, ?_⟩; have n0_ := Aside0.mk (Kd.R_elder' (by (with_reducible repeat first|apply Qa|apply Qb|apply Qc); exact HO384.out) (Kd.R_base ho0) hb); have n1_ := Aside0.mk (Kd.R_lower (Kd.R_new' ho0 (Kd.R_lt (by (with_reducible repeat first|apply Qa|apply Qb|apply Qc); exact HO384.out))) (below_size (by repeat first|(with_reducible first|exact HB.out|apply Qg|apply Qh|apply Qi)|exact HB.out))); have n4_ := Aside0.mk (below_step (by repeat first|(with_reducible first|exact HB.out|apply Qg|apply Qh|apply Qi)|exact HB.out) hb); clear HO384; (try clear HR359); (try clear HR388); clear HB; have HO384 := n0_; have HO392 := n1_; have HB := n4_; clear n0_ n1_ n4_; (try clear hb); (try clear hb2); (try clear hk); (try clear hi); (try clear ho0)) | ((with_reducible refine gate_callee (f := 38) rfl ?_); refine goesL_ (some 92) rfl rfl Try.func38 (by kernel_rfl) rfl #[.slice A1 l1.length c1, .int .i64 a2] rfl (by (try simp only [List.map_toArray, List.map_cons, List.map_nil]); first | done | rfl | (simp only [List.length_drop, List.length_take]; rfl)) ?_; (with_reducible refine (sapperref13_Unturn.calls kj9 _ _ l1 a2 t393 t394 _ ?side1 ?side2 A48.out).mono ?_); (case side1 => repeat (first | exact (Kd.C_below HR1.out HB.out) | (with_reducible first|refine Qd ?_ _|refine Qe ?_ _|refine Qf ?_))); (case side2 => exact HC1.out); rintro e w59 ⟨v395, rfl, ho0, hb⟩; refine ⟨_, rfl, ?_⟩; have n0_ := Aside0.mk (Kd.R_elder' (by (with_reducible repeat first|apply Qa|apply Qb|apply Qc); exact HO384.out) (Kd.R_base ho0) hb); have n1_ := Aside0.mk (Kd.R_elder' (by (with_reducible repeat first|apply Qa|apply Qb|apply Qc); exact HO392.out) (Kd.R_base ho0) hb); have n2_ := Aside0.mk (Kd.R_lower (Kd.R_new' (Kd.R_new' ho0 (Kd.R_lt (by (with_reducible repeat first|apply Qa|apply Qb|apply Qc); exact HO384.out))) (Kd.R_lt (by (with_reducible repeat first|apply Qa|apply Qb|apply Qc); exact HO392.out))) (below_size (by repeat first|(with_reducible first|exact HB.out|apply Qg|apply Qh|apply Qi)|exact HB.out))); have n5_ := Aside0.mk (below_step (by repeat first|(with_reducible first|exact HB.out|apply Qg|apply Qh|apply Qi)|exact HB.out) hb); clear HO384; clear HO392; (try clear HR359); (try clear HR388); clear HB; have HO384 := n0_; have HO392 := n1_; have HO396 := n2_; have HB := n5_; clear n0_ n1_ n2_ n5_; (try clear hb); (try clear hb2); (try clear hk); (try clear hi); (try clear ho0); obtain ⟨Ao60, co60, eo60⟩ := Kd.R_slice HO392.out; subst eo60; obtain ⟨Ao61, co61, eo61⟩ := Kd.R_slice HO396.out; subst eo61) | (go_at_call 35; (with_reducible refine (sapperref01_Same.calls _ _ t389 _ _ t393 true _ ?side1 ?side2 ?side3 ?side4 A50.out).mono ?_); (case side1 => repeat (first | exact (Kd.R_reads' HO392.out).2.2 | (with_reducible first|refine Qd ?_ _|refine Qe ?_ _|refine Qf ?_))); (case side2 => exact (Kd.R_reads' HO392.out).2.1); (case side3 => repeat (first | exact (Kd.R_reads' HO396.out).2.2 | (with_reducible first|refine Qd ?_ _|refine Qe ?_ _|refine Qf ?_))); (case side4 => exact (Kd.R_reads' HO396.out).2.1); rintro e w' ⟨rfl, ⟨nd, rfl⟩⟩) | (go_at_call 27; (with_reducible refine (sapperref01_Kept.calls _ _ t382 _ _ l1 true _ ?side1 ?side2 ?side3 ?side4 A52.out).mono ?_); (case side1 => repeat (first | exact (Kd.R_reads' HO384.out).2.2 | (with_reducible first|refine Qd ?_ _|refine Qe ?_ _|refine Qf ?_))); (case side2 => exact (Kd.R_reads' HO384.out).2.1); (case side3 => repeat (first | exact (Kd.C_below HR1.out (by repeat first|(with_reducible first|exact HB.out|apply Qg|apply Qh|apply Qi)|exact HB.out)) | (with_reducible first|refine Qd ?_ _|refine Qe ?_ _|refine Qf ?_))); (case side4 => exact HC1.out); rintro e w62 ⟨rfl, hb⟩; have n5_ := Aside0.mk (below_step (by repeat first|(with_reducible first|exact HB.out|apply Qg|apply Qh|apply Qi)|exact HB.out) hb); (try clear HO384); (try clear HO392); (try clear HO396); (try clear HR359); (try clear HR388); clear HB; have HB := n5_; clear n5_; (try clear hb); (try clear hb2); (try clear hk); (try clear hi)) | (go_at_call 15; (with_reducible refine (sapperlaw13_lives.calls kj9  t399 _ A54.out).mono ?_); rintro e w63 ⟨rfl, hb⟩; have n5_ := Aside0.mk (below_step (by repeat first|(with_reducible first|exact HB.out|apply Qg|apply Qh|apply Qi)|exact HB.out) hb); (try clear HO384); (try clear HO392); (try clear HO396); (try clear HR359); (try clear HR388); clear HB; have HB := n5_; clear n5_; (try clear hb); (try clear hb2); (try clear hk); (try clear hi)))
           go_ret
           exact ⟨by first | rfl | (simp [errW_none, errW_some] <;> rfl) | (simp [*, errW_none, errW_some] <;> rfl), by repeat first|(with_reducible first|exact HB.out|apply Qg|apply Qh|apply Qi)|exact HB.out⟩
          ·replace c53 := Bool.eq_false_iff.mpr c53
           subst c53
           have H1 : (some false) = some r := by rw [if_neg (show ¬ (false = true) by decide)] at H; exact H
           clear H
           have H := H1
           clear H1
           obtain rfl := Option.some.inj H
           go_wp2_with (first | ((with_reducible refine gate_callee (f := 22) rfl ?_); refine goesL_ (some 80) rfl rfl Try.func22 (by kernel_rfl) rfl #[.slice A1 l1.length c1] rfl (by (try simp only [List.map_toArray, List.map_cons, List.map_nil]); first | done | rfl | (simp only [List.length_drop, List.length_take]; rfl)) ?_; (with_reducible refine (sapperref01_Lend.calls _ _ l1 t382 _ ?side1 ?side2 A44.out).mono ?_); (case side1 => repeat (first | exact (Kd.C_below HR1.out HB.out) | (with_reducible first|refine Qd ?_ _|refine Qe ?_ _|refine Qf ?_))); (case side2 => exact HC1.out); rintro e w64 ⟨v383, rfl, ho0, hb⟩; refine ⟨_, rfl, ?_⟩; have n0_ := Aside0.mk (Kd.R_lower ho0 (below_size (by repeat first|(with_reducible first|exact HB.out|apply Qg|apply Qh|apply Qi)|exact HB.out))); have n2_ := Aside0.mk (below_step (by repeat first|(with_reducible first|exact HB.out|apply Qg|apply Qh|apply Qi)|exact HB.out) hb); (try clear HR359); clear HB; have HO384 := n0_; have HB := n2_; clear n0_ n2_; (try clear hb); (try clear hb2); (try clear hk); (try clear hi); (try clear ho0); obtain ⟨Ao66, co66, eo66⟩ := Kd.R_slice HO384.out; subst eo66; have q65 : ((l1.length : Int) : Int) ≤ ((t382.length : Int) : Int) := Qt; obtain ⟨i065, hi065, _, hsz65, _⟩ := info_parts info5; have hroom65 : t382.length ≤ co66 := (Kd.R_reads' HO384.out).2.1; have hC65 : Kd.C (Kd.int .u8) _ Ao66 t382.length t382 := (Kd.R_reads' HO384.out).2.2; have hcut65 := cut_to (P := Try.prog) 23 5 .i64 Try.underlying23 hi065 Ao66 t382.length co66 (l1.length : Int) (Qt) q65 hroom65; have hr65 := Kd.C_take (m := ((l1.length : Int) : Int).toNat) hC65 (by omega); have hy65 : y385.length = ((l1.length : Int) : Int).toNat := (by rw [Ny385.out, List.length_take]; omega); rw [← Ny385.out] at hr65; rw [← hy65] at hcut65; have HR388 := Aside0.mk hr65; have HC388 := Aside0.mk (show y385.length ≤ co66 from by omega); clear hr65 hC65 hroom65 hi065 hsz65; have KY65 := Aside0.mk hy65; clear hy65; have hpc65 : cutOf (.slice Ao66 t382.length co66) l1.length = .slice Ao66 y385.length co66 := (by rw [KY65.out, Int.toNat_natCast]; rfl); have KL65 := Aside0.mk (show ((l1.length : Int) : Int).toNat ≤ t382.length from by omega); replace q65 := eq_true q65) | ((with_reducible refine gate_callee (f := 37) rfl ?_); refine goesL_ (some 86) rfl rfl Try.func37 (by kernel_rfl) rfl #[.slice Ao66 y385.length co66, .int .i64 a2] rfl (by (try simp only [List.map_toArray, List.map_cons, List.map_nil]); first | done | rfl | (simp only [List.length_drop, List.length_take]; rfl)) ?_; (with_reducible refine (suffix_Unturn.calls _ _ y385 a2 t389 t390 _ ?side1 ?side2 A47.out).mono ?_); (case side1 => repeat (first | exact (by repeat (first | (with_reducible exact HR388.out) | (with_reducible first|refine Qd ?_ _|refine Qe ?_ _|refine Qf ?_) | exact HR388.out)) | (with_reducible first|refine Qd ?_ _|refine Qe ?_ _|refine Qf ?_))); (case side2 => exact HC388.out); rintro e w67 ⟨v391, rfl, ho0, hb⟩; refine ⟨_, rfl, ?_⟩; have n0_ := Aside0.mk (Kd.R_elder' (by (with_reducible repeat first|apply Qa|apply Qb|apply Qc); exact HO384.out) (Kd.R_base ho0) hb); have n1_ := Aside0.mk (Kd.R_lower (Kd.R_new' ho0 (Kd.R_lt (by (with_reducible repeat first|apply Qa|apply Qb|apply Qc); exact HO384.out))) (below_size (by repeat first|(with_reducible first|exact HB.out|apply Qg|apply Qh|apply Qi)|exact HB.out))); have n4_ := Aside0.mk (below_step (by repeat first|(with_reducible first|exact HB.out|apply Qg|apply Qh|apply Qi)|exact HB.out) hb); clear HO384; (try clear HR359); (try clear HR388); clear HB; have HO384 := n0_; have HO392 := n1_; have HB := n4_; clear n0_ n1_ n4_; (try clear hb); (try clear hb2); (try clear hk); (try clear hi); (try clear ho0)) | ((with_reducible refine gate_callee (f := 38) rfl ?_); refine goesL_ (some 92) rfl rfl Try.func38 (by kernel_rfl) rfl #[.slice A1 l1.length c1, .int .i64 a2] rfl (by (try simp only [List.map_toArray, List.map_cons, List.map_nil]); first | done | rfl | (simp only [List.length_drop, List.length_take]; rfl)) ?_; (with_reducible refine (sapperref13_Unturn.calls kj9 _ _ l1 a2 t393 t394 _ ?side1 ?side2 A48.out).mono ?_); (case side1 => repeat (first | exact (Kd.C_below HR1.out HB.out) | (with_reducible first|refine Qd ?_ _|refine Qe ?_ _|refine Qf ?_))); (case side2 => exact HC1.out); rintro e w68 ⟨v395, rfl, ho0, hb⟩; refine ⟨_, rfl, ?_⟩; have n0_ := Aside0.mk (Kd.R_elder' (by (with_reducible repeat first|apply Qa|apply Qb|apply Qc); exact HO384.out) (Kd.R_base ho0) hb); have n1_ := Aside0.mk (Kd.R_elder' (by (with_reducible repeat first|apply Qa|apply Qb|apply Qc); exact HO392.out) (Kd.R_base ho0) hb); have n2_ := Aside0.mk (Kd.R_lower (Kd.R_new' (Kd.R_new' ho0 (Kd.R_lt (by (with_reducible repeat first|apply Qa|apply Qb|apply Qc); exact HO384.out))) (Kd.R_lt (by (with_reducible repeat first|apply Qa|apply Qb|apply Qc); exact HO392.out))) (below_size (by repeat first|(with_reducible first|exact HB.out|apply Qg|apply Qh|apply Qi)|exact HB.out))); have n5_ := Aside0.mk (below_step (by repeat first|(with_reducible first|exact HB.out|apply Qg|apply Qh|apply Qi)|exact HB.out) hb); clear HO384; clear HO392; (try clear HR359); (try clear HR388); clear HB; have HO384 := n0_; have HO392 := n1_; have HO396 := n2_; have HB := n5_; clear n0_ n1_ n2_ n5_; (try clear hb); (try clear hb2); (try clear hk); (try clear hi); (try clear ho0); obtain ⟨Ao69, co69, eo69⟩ := Kd.R_slice HO392.out; subst eo69; obtain ⟨Ao70, co70, eo70⟩ := Kd.R_slice HO396.out; subst eo70) | (go_at_call 35; (with_reducible refine (sapperref01_Same.calls _ _ t389 _ _ t393 true _ ?side1 ?side2 ?side3 ?side4 A50.out).mono ?_); (case side1 => repeat (first | exact (Kd.R_reads' HO392.out).2.2 | (with_reducible first|refine Qd ?_ _|refine Qe ?_ _|refine Qf ?_))); (case side2 => exact (Kd.R_reads' HO392.out).2.1); (case side3 => repeat (first | exact (Kd.R_reads' HO396.out).2.2 | (with_reducible first|refine Qd ?_ _|refine Qe ?_ _|refine Qf ?_))); (case side4 => exact (Kd.R_reads' HO396.out).2.1); rintro e w' ⟨rfl, ⟨nd, rfl⟩⟩) | (go_at_call 27; (with_reducible refine (sapperref01_Kept.calls _ _ t382 _ _ l1 false _ ?side1 ?side2 ?side3 ?side4 A52.out).mono ?_); (case side1 => repeat (first | exact (Kd.R_reads' HO384.out).2.2 | (with_reducible first|refine Qd ?_ _|refine Qe ?_ _|refine Qf ?_))); (case side2 => exact (Kd.R_reads' HO384.out).2.1); (case side3 => repeat (first | exact (Kd.C_below HR1.out (by repeat first|(with_reducible first|exact HB.out|apply Qg|apply Qh|apply Qi)|exact HB.out)) | (with_reducible first|refine Qd ?_ _|refine Qe ?_ _|refine Qf ?_))); (case side4 => exact HC1.out); rintro e w71 ⟨rfl, hb⟩; have n5_ := Aside0.mk (below_step (by repeat first|(with_reducible first|exact HB.out|apply Qg|apply Qh|apply Qi)|exact HB.out) hb); (try clear HO384); (try clear HO392); (try clear HO396); (try clear HR359); (try clear HR388); clear HB; have HB := n5_; clear n5_; (try clear hb); (try clear hb2); (try clear hk); (try clear hi)))
           go_ret
           exact ⟨by first | rfl | (simp [errW_none, errW_some] <;> rfl) | (simp [*, errW_none, errW_some] <;> rfl), by repeat first|(with_reducible first|exact HB.out|apply Qg|apply Qh|apply Qi)|exact HB.out⟩
         ·replace c51 := Bool.eq_false_iff.mpr c51
          subst c51
          have H1 : (some false) = some r := by rw [if_neg (show ¬ (false = true) by decide)] at H; exact H
          clear H
          have H := H1
          clear H1
          obtain rfl := Option.some.inj H
          go_wp2_with (first | ((with_reducible refine gate_callee (f := 22) rfl ?_); refine goesL_ (some 80) rfl rfl Try.func22 (by kernel_rfl) rfl #[.slice A1 l1.length c1] rfl (by (try simp only [List.map_toArray, List.map_cons, List.map_nil]); first | done | rfl | (simp only [List.length_drop, List.length_take]; rfl)) ?_; (with_reducible refine (sapperref01_Lend.calls _ _ l1 t382 _ ?side1 ?side2 A44.out).mono ?_); (case side1 => repeat (first | exact (Kd.C_below HR1.out HB.out) | (with_reducible first|refine Qd ?_ _|refine Qe ?_ _|refine Qf ?_))); (case side2 => exact HC1.out); rintro e w72 ⟨v383, rfl, ho0, hb⟩; refine ⟨_, rfl, ?_⟩; have n0_ := Aside0.mk (Kd.R_lower ho0 (below_size (by repeat first|(with_reducible first|exact HB.out|apply Qg|apply Qh|apply Qi)|exact HB.out))); have n2_ := Aside0.mk (below_step (by repeat first|(with_reducible first|exact HB.out|apply Qg|apply Qh|apply Qi)|exact HB.out) hb); (try clear HR359); clear HB; have HO384 := n0_; have HB := n2_; clear n0_ n2_; (try clear hb); (try clear hb2); (try clear hk); (try clear hi); (try clear ho0); obtain ⟨Ao74, co74, eo74⟩ := Kd.R_slice HO384.out; subst eo74; have q73 : ((l1.length : Int) : Int) ≤ ((t382.length : Int) : Int) := Qt; obtain ⟨i073, hi073, _, hsz73, _⟩ := info_parts info5; have hroom73 : t382.length ≤ co74 := (Kd.R_reads' HO384.out).2.1; have hC73 : Kd.C (Kd.int .u8) _ Ao74 t382.length t382 := (Kd.R_reads' HO384.out).2.2; have hcut73 := cut_to (P := Try.prog) 23 5 .i64 Try.underlying23 hi073 Ao74 t382.length co74 (l1.length : Int) (Qt) q73 hroom73; have hr73 := Kd.C_take (m := ((l1.length : Int) : Int).toNat) hC73 (by omega); have hy73 : y385.length = ((l1.length : Int) : Int).toNat := (by rw [Ny385.out, List.length_take]; omega); rw [← Ny385.out] at hr73; rw [← hy73] at hcut73; have HR388 := Aside0.mk hr73; have HC388 := Aside0.mk (show y385.length ≤ co74 from by omega); clear hr73 hC73 hroom73 hi073 hsz73; have KY73 := Aside0.mk hy73; clear hy73; have hpc73 : cutOf (.slice Ao74 t382.length co74) l1.length = .slice Ao74 y385.length co74 := (by rw [KY73.out, Int.toNat_natCast]; rfl); have KL73 := Aside0.mk (show ((l1.length : Int) : Int).toNat ≤ t382.length from by omega); replace q73 := eq_true q73) | ((with_reducible refine gate_callee (f := 37) rfl ?_); refine goesL_ (some 86) rfl rfl Try.func37 (by kernel_rfl) rfl #[.slice Ao74 y385.length co74, .int .i64 a2] rfl (by (try simp only [List.map_toArray, List.map_cons, List.map_nil]); first | done | rfl | (simp only [List.length_drop, List.length_take]; rfl)) ?_; (with_reducible refine (suffix_Unturn.calls _ _ y385 a2 t389 t390 _ ?side1 ?side2 A47.out).mono ?_); (case side1 => repeat (first | exact (by repeat (first | (with_reducible exact HR388.out) | (with_reducible first|refine Qd ?_ _|refine Qe ?_ _|refine Qf ?_) | exact HR388.out)) | (with_reducible first|refine Qd ?_ _|refine Qe ?_ _|refine Qf ?_))); (case side2 => exact HC388.out); rintro e w75 ⟨v391, rfl, ho0, hb⟩; refine ⟨_, rfl, ?_⟩; have n0_ := Aside0.mk (Kd.R_elder' (by (with_reducible repeat first|apply Qa|apply Qb|apply Qc); exact HO384.out) (Kd.R_base ho0) hb); have n1_ := Aside0.mk (Kd.R_lower (Kd.R_new' ho0 (Kd.R_lt (by (with_reducible repeat first|apply Qa|apply Qb|apply Qc); exact HO384.out))) (below_size (by repeat first|(with_reducible first|exact HB.out|apply Qg|apply Qh|apply Qi)|exact HB.out))); have n4_ := Aside0.mk (below_step (by repeat first|(with_reducible first|exact HB.out|apply Qg|apply Qh|apply Qi)|exact HB.out) hb); clear HO384; (try clear HR359); (try clear HR388); clear HB; have HO384 := n0_; have HO392 := n1_; have HB := n4_; clear n0_ n1_ n4_; (try clear hb); (try clear hb2); (try clear hk); (try clear hi); (try clear ho0)) | ((with_reducible refine gate_callee (f := 38) rfl ?_); refine goesL_ (some 92) rfl rfl Try.func38 (by kernel_rfl) rfl #[.slice A1 l1.length c1, .int .i64 a2] rfl (by (try simp only [List.map_toArray, List.map_cons, List.map_nil]); first | done | rfl | (simp only [List.length_drop, List.length_take]; rfl)) ?_; (with_reducible refine (sapperref13_Unturn.calls kj9 _ _ l1 a2 t393 t394 _ ?side1 ?side2 A48.out).mono ?_); (case side1 => repeat (first | exact (Kd.C_below HR1.out HB.out) | (with_reducible first|refine Qd ?_ _|refine Qe ?_ _|refine Qf ?_))); (case side2 => exact HC1.out); rintro e w76 ⟨v395, rfl, ho0, hb⟩; refine ⟨_, rfl, ?_⟩; have n1_ := Aside0.mk (Kd.R_elder' (by (with_reducible repeat first|apply Qa|apply Qb|apply Qc); exact HO392.out) (Kd.R_base ho0) hb); have n2_ := Aside0.mk (Kd.R_lower (Kd.R_new' (Kd.R_new' ho0 (Kd.R_lt (by (with_reducible repeat first|apply Qa|apply Qb|apply Qc); exact HO384.out))) (Kd.R_lt (by (with_reducible repeat first|apply Qa|apply Qb|apply Qc); exact HO392.out))) (below_size (by repeat first|(with_reducible first|exact HB.out|apply Qg|apply Qh|apply Qi)|exact HB.out))); have n5_ := Aside0.mk (below_step (by repeat first|(with_reducible first|exact HB.out|apply Qg|apply Qh|apply Qi)|exact HB.out) hb); (try clear HO384); clear HO392; (try clear HR359); (try clear HR388); clear HB; have HO392 := n1_; have HO396 := n2_; have HB := n5_; clear n1_ n2_ n5_; (try clear hb); (try clear hb2); (try clear hk); (try clear hi); (try clear ho0); obtain ⟨Ao77, co77, eo77⟩ := Kd.R_slice HO392.out; subst eo77; obtain ⟨Ao78, co78, eo78⟩ := Kd.R_slice HO396.out; subst eo78) | (go_at_call 35; (with_reducible refine (sapperref01_Same.calls _ _ t389 _ _ t393 false _ ?side1 ?side2 ?side3 ?side4 A50.out).mono ?_); (case side1 => repeat (first | exact (Kd.R_reads' HO392.out).2.2 | (with_reducible first|refine Qd ?_ _|refine Qe ?_ _|refine Qf ?_))); (case side2 => exact (Kd.R_reads' HO392.out).2.1); (case side3 => repeat (first | exact (Kd.R_reads' HO396.out).2.2 | (with_reducible first|refine Qd ?_ _|refine Qe ?_ _|refine Qf ?_))); (case side4 => exact (Kd.R_reads' HO396.out).2.1); rintro e w' ⟨rfl, ⟨nd, rfl⟩⟩))
          go_ret
          exact ⟨by first | rfl | (simp [errW_none, errW_some] <;> rfl) | (simp [*, errW_none, errW_some] <;> rfl), by repeat first|(with_reducible first|exact HB.out|apply Qg|apply Qh|apply Qi)|exact HB.out⟩
        ·rw [if_neg c49] at H
         have c49b0 : (t390 == t394) = false := beq_eq_false_iff_ne.mpr c49
         have c49b1 : (t390 != t394) = true := bne_iff_ne.mpr c49
         obtain rfl := Option.some.inj H
         go_wp2_with (first | ((with_reducible refine gate_callee (f := 22) rfl ?_); refine goesL_ (some 80) rfl rfl Try.func22 (by kernel_rfl) rfl #[.slice A1 l1.length c1] rfl (by (try simp only [List.map_toArray, List.map_cons, List.map_nil]); first | done | rfl | (simp only [List.length_drop, List.length_take]; rfl)) ?_; (with_reducible refine (sapperref01_Lend.calls _ _ l1 t382 _ ?side1 ?side2 A44.out).mono ?_); (case side1 => repeat (first | exact (Kd.C_below HR1.out HB.out) | (with_reducible first|refine Qd ?_ _|refine Qe ?_ _|refine Qf ?_))); (case side2 => exact HC1.out); rintro e w79 ⟨v383, rfl, ho0, hb⟩; refine ⟨_, rfl, ?_⟩; have n0_ := Aside0.mk (Kd.R_lower ho0 (below_size (by repeat first|(with_reducible first|exact HB.out|apply Qg|apply Qh|apply Qi)|exact HB.out))); have n2_ := Aside0.mk (below_step (by repeat first|(with_reducible first|exact HB.out|apply Qg|apply Qh|apply Qi)|exact HB.out) hb); (try clear HR359); clear HB; have HO384 := n0_; have HB := n2_; clear n0_ n2_; (try clear hb); (try clear hb2); (try clear hk); (try clear hi); (try clear ho0); obtain ⟨Ao81, co81, eo81⟩ := Kd.R_slice HO384.out; subst eo81; have q80 : ((l1.length : Int) : Int) ≤ ((t382.length : Int) : Int) := Qt; obtain ⟨i080, hi080, _, hsz80, _⟩ := info_parts info5; have hroom80 : t382.length ≤ co81 := (Kd.R_reads' HO384.out).2.1; have hC80 : Kd.C (Kd.int .u8) _ Ao81 t382.length t382 := (Kd.R_reads' HO384.out).2.2; have hcut80 := cut_to (P := Try.prog) 23 5 .i64 Try.underlying23 hi080 Ao81 t382.length co81 (l1.length : Int) (Qt) q80 hroom80; have hr80 := Kd.C_take (m := ((l1.length : Int) : Int).toNat) hC80 (by omega); have hy80 : y385.length = ((l1.length : Int) : Int).toNat := (by rw [Ny385.out, List.length_take]; omega); rw [← Ny385.out] at hr80; rw [← hy80] at hcut80; have HR388 := Aside0.mk hr80; have HC388 := Aside0.mk (show y385.length ≤ co81 from by omega); clear hr80 hC80 hroom80 hi080 hsz80; have KY80 := Aside0.mk hy80; clear hy80; have hpc80 : cutOf (.slice Ao81 t382.length co81) l1.length = .slice Ao81 y385.length co81 := (by rw [KY80.out, Int.toNat_natCast]; rfl); have KL80 := Aside0.mk (show ((l1.length : Int) : Int).toNat ≤ t382.length from by omega); replace q80 := eq_true q80) | ((with_reducible refine gate_callee (f := 37) rfl ?_); refine goesL_ (some 86) rfl rfl Try.func37 (by kernel_rfl) rfl #[.slice Ao81 y385.length co81, .int .i64 a2] rfl (by (try simp only [List.map_toArray, List.map_cons, List.map_nil]); first | done | rfl | (simp only [List.length_drop, List.length_take]; rfl)) ?_; (with_reducible refine (suffix_Unturn.calls _ _ y385 a2 t389 t390 _ ?side1 ?side2 A47.out).mono ?_); (case side1 => repeat (first | exact (by repeat (first | (with_reducible exact HR388.out) | (with_reducible first|refine Qd ?_ _|refine Qe ?_ _|refine Qf ?_) | exact HR388.out)) | (with_reducible first|refine Qd ?_ _|refine Qe ?_ _|refine Qf ?_))); (case side2 => exact HC388.out); rintro e w82 ⟨v391, rfl, ho0, hb⟩; refine ⟨_, rfl, ?_⟩; have n4_ := Aside0.mk (below_step (by repeat first|(with_reducible first|exact HB.out|apply Qg|apply Qh|apply Qi)|exact HB.out) hb); (try clear HO384); (try clear HR359); (try clear HR388); clear HB; have HB := n4_; clear n4_; (try clear hb); (try clear hb2); (try clear hk); (try clear hi); (try clear ho0)) | ((with_reducible refine gate_callee (f := 38) rfl ?_); refine goesL_ (some 92) rfl rfl Try.func38 (by kernel_rfl) rfl #[.slice A1 l1.length c1, .int .i64 a2] rfl (by (try simp only [List.map_toArray, List.map_cons, List.map_nil]); first | done | rfl | (simp only [List.length_drop, List.length_take]; rfl)) ?_; (with_reducible refine (sapperref13_Unturn.calls kj9 _ _ l1 a2 t393 t394 _ ?side1 ?side2 A48.out).mono ?_); (case side1 => repeat (first | exact (Kd.C_below HR1.out HB.out) | (with_reducible first|refine Qd ?_ _|refine Qe ?_ _|refine Qf ?_))); (case side2 => exact HC1.out); rintro e w83 ⟨v395, rfl, ho0, hb⟩; refine ⟨_, rfl, ?_⟩; have n5_ := Aside0.mk (below_step (by repeat first|(with_reducible first|exact HB.out|apply Qg|apply Qh|apply Qi)|exact HB.out) hb); (try clear HO384); (try clear HO392); (try clear HR359); (try clear HR388); clear HB; have HB := n5_; clear n5_; (try clear hb); (try clear hb2); (try clear hk); (try clear hi); (try clear ho0)))
         go_ret
         exact ⟨by first | rfl | (simp [errW_none, errW_some] <;> rfl) | (simp [*, errW_none, errW_some] <;> rfl), by repeat first|(with_reducible first|exact HB.out|apply Qg|apply Qh|apply Qi)|exact HB.out⟩
       ·rw [if_neg c46] at H
        exact absurd H (by simp)
      ·rw [if_neg c45] at H
       exact absurd H (by simp)
  ·rw [if_neg c6] at H
   exact absurd H (by simp)
 ·rw [if_neg c5] at H
  exact absurd H (by simp)

/-- THE ONE PURE STATEMENT of sapperlaw13_SuffixTurns: yours. -/
def sapperlaw13_SuffixTurns.Pure : Prop := ∀ (l0 : List Int) (l1 : List Int) (a2 : Int), l0.length ≤ maxLen → l0.length * 1 ≤ 140737488351232 → (∀ x ∈ l0, (Lit.int .u8 x).wf = true) → l1.length ≤ maxLen → l1.length * 1 ≤ 140737488351232 → (∀ x ∈ l1, (Lit.int .u8 x).wf = true) → (Lit.int .i64 a2).wf = true → ∃ k, sapperlaw13_SuffixTurns.f k l0 l1 a2 = some true
theorem sapperlaw13_SuffixTurns.walk (P : sapperlaw13_SuffixTurns.Pure) (a0 : Option Addr) (len0 cap0 : Nat) (z0 : List Int) (a1 : Option Addr) (len1 cap1 : Nat) (z1 : List Int) (a2 : Int) (w : World) (w0 : (a0 = none ∧ len0 = 0 ∧ cap0 = 0 ∧ z0 = []) ∨ ∃ x, a0 = some x ∧ len0 ≤ cap0 ∧ cap0 ≤ maxLen ∧ z0.length = cap0 ∧ (∀ i, i < z0.length → w.cell? (x.add i) = some (.int .u8 (z0.getD i 0))) ∧ ∀ n ∈ z0, (Lit.int .u8 n).wf = true) (y0 : len0 * 1 ≤ 140737488351232) (w1 : (a1 = none ∧ len1 = 0 ∧ cap1 = 0 ∧ z1 = []) ∨ ∃ x, a1 = some x ∧ len1 ≤ cap1 ∧ cap1 ≤ maxLen ∧ z1.length = cap1 ∧ (∀ i, i < z1.length → w.cell? (x.add i) = some (.int .u8 (z1.getD i 0))) ∧ ∀ n ∈ z1, (Lit.int .u8 n).wf = true) (y1 : len1 * 1 ≤ 140737488351232) (w2 : (Lit.int .i64 a2).wf = true) :
  Calls Try.prog 9 #[.slice a0 len0 cap0, .slice a1 len1 cap1, .int .i64 a2] w fun e w' => e = .returned (.bool true) ∧ Below w.heap.size w w' := by
 obtain ⟨l0, rfl, hr0, hm0, hw0, hc0⟩ := ReadsInt.ofRowC w0
 obtain ⟨l1, rfl, hr1, hm1, hw1, hc1⟩ := ReadsInt.ofRowC w1
 obtain ⟨k, h⟩ := P l0 l1 a2 hm0 y0 hw0 hm1 y1 hw1 w2
 refine (sapperlaw13_SuffixTurns.calls k _ _ l0 _ _ l1 a2 true w (Kd.C_of_reads (d := (0 : Int)) (h1 := fun _ => rfl) hr0) hc0 (Kd.C_of_reads (d := (0 : Int)) (h1 := fun _ => rfl) hr1) hc1 h).mono ?_
 rintro e w' ⟨rfl, hd⟩
 exact ⟨rfl, hd⟩

end Go.Proofs.Ythcnnfahlhklgaa.X
