-- Printed by wip/xprint.py of this repo (a wrapper of the session's own round the print).
import Derived.Test.YtgnhangjacdfbaaXx0
import Derived.Test.YtgnhangjacdfbaaXBA
import Derived.Test.YtgnhangjacdfbaaXx10
import Derived.Test.YtgnhangjacdfbaaXx11
namespace Go.Proofs.Ytgnhangjacdfbaa.X
open Go.RowKit Go.Proofs.YtgnhangjacdfbaaW.PrintWords Go.Proofs.YtgnhangjacdfbaaW.PrintLast Go.Proofs.YtgnhangjacdfbaaW.PrintMore
attribute [local go_sem] max2_int min2_int max_two min_two max_three min_three max_four min_four   -- for this text's walks alone
set_option linter.unusedVariables false
set_option linter.unusedSimpArgs false

/-! ### sapperlaw12_awake: function 15 -/
def sapperlaw12_awake.f (k : Nat)  : Option (Bool) := (sais_Array.f k 3 (([1, 0, 2, 0, 2, 0] : List Int))).bind fun bt247 => (if bt247.2 = 0 then ((sapperlaw12_Same.f k bt247.1 (([5, 3, 1, 0, 4, 2] : List Int))).bind fun t254 => (some t254)) else (some false))
theorem sapperlaw12_awake.mono : ∀ k, LeO (sapperlaw12_awake.f k ) (sapperlaw12_awake.f (k + 1) ) := by
 intro  k
 unfold sapperlaw12_awake.f
 repeat' first
   | (with_reducible exact sais_Array.mono _ _ _)
   | (with_reducible exact sapperlaw12_Same.mono _ _ _)
   | (with_reducible exact LeO.refl _)
   | (with_reducible exact LeO.none _)
   | (with_reducible refine LeO.ite ?_ ?_)
   | (with_reducible refine LeO.bind ?_ (fun _ => ?_))
   | exact sais_Array.mono _ _ _
   | exact sapperlaw12_Same.mono _ _ _
   | exact LeO.none _
   | refine LeO.ite ?_ ?_
   | refine LeO.bind ?_ (fun _ => ?_)
set_option maxHeartbeats 8000000 in
set_option maxRecDepth 100000 in
theorem sapperlaw12_awake.calls (k : Nat)  (r : Bool) (w : World) (h : sapperlaw12_awake.f k  = some r) :
  Calls Try.prog 15 #[] w fun e w' => e = .returned (.bool r) ∧ Below w.heap.size w w' := by
 have HB := Aside0.mk (Below.refl w.heap.size w)
 have H : ((sais_Array.f k 3 (([1, 0, 2, 0, 2, 0] : List Int))).bind fun bt247 => (if bt247.2 = 0 then ((sapperlaw12_Same.f k bt247.1 (([5, 3, 1, 0, 4, 2] : List Int))).bind fun t254 => (some t254)) else (some false))) = some r := h
 clear h
 obtain ⟨y244, hy244⟩ : ∃ y_ : List Int, y_ = (([1, 0, 2, 0, 2, 0] : List Int)) := ⟨_, rfl⟩
 replace H : ((sais_Array.f k 3 y244).bind fun bt247 => (if bt247.2 = 0 then ((sapperlaw12_Same.f k bt247.1 (([5, 3, 1, 0, 4, 2] : List Int))).bind fun t254 => (some t254)) else (some false))) = some r := by first | (rw [hy244]; with_reducible exact H) | (have H2_ := (Option.bind_some _ _).symm.trans H; rw [hy244]; with_reducible exact H2_) | (have H2_ := (Option.bind_some _ _).symm.trans H; with_reducible exact H2_) | with_reducible exact H | (rw [hy244]; exact H) | exact H
 have Ny244 := Aside0.mk hy244
 clear hy244
 replace H := Option.bind_eq_some_iff.mp H
 obtain ⟨⟨t247, t248⟩, A10, H⟩ := H
 replace H : (if t248 = 0 then ((sapperlaw12_Same.f k t247 (([5, 3, 1, 0, 4, 2] : List Int))).bind fun t254 => (some t254)) else (some false)) = some r := H
 have A1 := Aside0.mk A10
 clear A10
 by_cases c2 : t248 = 0
 ·rw [if_pos c2] at H
  have c2b0 : (t248 == 0) = true := beq_iff_eq.mpr c2
  have c2b1 : (t248 != 0) = false := bne_eq_false_iff_eq.mpr c2
  clear c2
  obtain ⟨y251, hy251⟩ : ∃ y_ : List Int, y_ = (([5, 3, 1, 0, 4, 2] : List Int)) := ⟨_, rfl⟩
  replace H : ((sapperlaw12_Same.f k t247 y251).bind fun t254 => (some t254)) = some r := by first | (rw [hy251]; with_reducible exact H) | (have H2_ := (Option.bind_some _ _).symm.trans H; rw [hy251]; with_reducible exact H2_) | (have H2_ := (Option.bind_some _ _).symm.trans H; with_reducible exact H2_) | with_reducible exact H | (rw [hy251]; exact H) | exact H
  have Ny251 := Aside0.mk hy251
  clear hy251
  replace H := Option.bind_eq_some_iff.mp H
  obtain ⟨t254, A30, H⟩ := H
  replace H : (some t254) = some r := H
  have A3 := Aside0.mk A30
  clear A30
  obtain rfl := Option.some.inj H
  go_enter Try.func15, Try.ntmps15
  go_wp2_with (first | ((with_reducible refine gate_dst (N := 4) rfl ?_); (try (refine gate_guard (by rfl) ?_; dsimp only)); refine Kd.R_lit (Kd.int .i64) _ 3 ?hg (N := 4) ?hd (xs := ([1, 0, 2, 0, 2, 0] : List Int)) (inner := [.int .i64 1, .int .i64 0, .int .i64 2, .int .i64 0, .int .i64 2, .int .i64 0]) (ok := fun _ => True) (okp := fun _ => True) ?hr ?hp (fun _ hk => hk) trivial (Below.refl _ _) (Nat.le_refl _) (by simp) ?_; (case hd => rfl); (case hg => rfl); (case hr => first | (go_simp; done) | (go_simp; rfl)); (case hp => exact (Reps.one (show Kd.M (Kd.int .i64) _ _ _ 1 [.int .i64 1] from rfl) (Reps.one (show Kd.M (Kd.int .i64) _ _ _ 0 [.int .i64 0] from rfl) (Reps.one (show Kd.M (Kd.int .i64) _ _ _ 2 [.int .i64 2] from rfl) (Reps.one (show Kd.M (Kd.int .i64) _ _ _ 0 [.int .i64 0] from rfl) (Reps.one (show Kd.M (Kd.int .i64) _ _ _ 2 [.int .i64 2] from rfl) (Reps.one (show Kd.M (Kd.int .i64) _ _ _ 0 [.int .i64 0] from rfl) (Reps.none _ _)))))))); intro v245 w4 ho5 hb hg_ hnew_; clear hg_ hnew_; (first | rw [← Ny244.out] at ho5 | (simp only [Int.reduceToNat] at ho5; rw [← Ny244.out] at ho5)); have n0_ := Aside0.mk (Kd.R_lower ho5 (below_size (by repeat first|(with_reducible first|exact HB.out|apply Qg|apply Qh|apply Qi)|exact HB.out))); have n1_ := Aside0.mk (below_step (by repeat first|(with_reducible first|exact HB.out|apply Qg|apply Qh|apply Qi)|exact HB.out) hb); clear HB; have HO246 := n0_; have HB := n1_; clear n0_ n1_; clear hb ho5; obtain ⟨Ao6, co6, eo6⟩ := Kd.R_slice HO246.out; subst eo6) | ((with_reducible refine gate_callee (f := 13) rfl ?_); refine goesL_ (some 5) rfl rfl Try.func13 (by kernel_rfl) rfl #[.int .i64 3, .slice Ao6 y244.length co6] rfl (by (try simp only [List.map_toArray, List.map_cons, List.map_nil]); first | done | rfl | (simp only [List.length_drop, List.length_take]; rfl)) ?_; (with_reducible refine (sais_Array.calls k 3 _ _ y244 t247 t248 _ ?side1 ?side2 A1.out).mono ?_); (case side1 => repeat (first | exact (Kd.R_reads' HO246.out).2.2 | (with_reducible first|refine Qd ?_ _|refine Qe ?_ _|refine Qf ?_))); (case side2 => exact (Kd.R_reads' HO246.out).2.1); rintro e w7 ⟨v249, rfl, ho0, hb⟩; refine ⟨_, rfl, ?_⟩; have n0_ := Aside0.mk (Kd.R_elder' (by (with_reducible repeat first|apply Qa|apply Qb|apply Qc); exact HO246.out) (Kd.R_base ho0) hb); have n1_ := Aside0.mk (Kd.R_lower (Kd.R_new' ho0 (Kd.R_lt (by (with_reducible repeat first|apply Qa|apply Qb|apply Qc); exact HO246.out))) (below_size (by repeat first|(with_reducible first|exact HB.out|apply Qg|apply Qh|apply Qi)|exact HB.out))); have n2_ := Aside0.mk (below_step (by repeat first|(with_reducible first|exact HB.out|apply Qg|apply Qh|apply Qi)|exact HB.out) hb); clear HO246; clear HB; have HO246 := n0_; have HO250 := n1_; have HB := n2_; clear n0_ n1_ n2_; (try clear hb); (try clear hb2); (try clear hk); (try clear hi); (try clear ho0)) | ((with_reducible refine gate_dst (N := 12) rfl ?_); (try (refine gate_guard (by rfl) ?_; dsimp only)); refine Kd.R_lit (Kd.int .i64) _ 3 ?hg (N := 12) ?hd (xs := ([5, 3, 1, 0, 4, 2] : List Int)) (inner := [.int .i64 5, .int .i64 3, .int .i64 1, .int .i64 0, .int .i64 4, .int .i64 2]) (ok := fun _ => True) (okp := fun _ => True) ?hr ?hp (fun _ hk => hk) trivial (Below.refl _ _) (Nat.le_refl _) (by simp) ?_; (case hd => rfl); (case hg => rfl); (case hr => first | (go_simp; done) | (go_simp; rfl)); (case hp => exact (Reps.one (show Kd.M (Kd.int .i64) _ _ _ 5 [.int .i64 5] from rfl) (Reps.one (show Kd.M (Kd.int .i64) _ _ _ 3 [.int .i64 3] from rfl) (Reps.one (show Kd.M (Kd.int .i64) _ _ _ 1 [.int .i64 1] from rfl) (Reps.one (show Kd.M (Kd.int .i64) _ _ _ 0 [.int .i64 0] from rfl) (Reps.one (show Kd.M (Kd.int .i64) _ _ _ 4 [.int .i64 4] from rfl) (Reps.one (show Kd.M (Kd.int .i64) _ _ _ 2 [.int .i64 2] from rfl) (Reps.none _ _)))))))); intro v252 w8 ho9 hb hg_ hnew_; clear hg_ hnew_; (first | rw [← Ny251.out] at ho9 | (simp only [Int.reduceToNat] at ho9; rw [← Ny251.out] at ho9)); have n0_ := Aside0.mk (Kd.R_elder' (by (with_reducible repeat first|apply Qa|apply Qb|apply Qc); exact HO246.out) (Kd.R_base ho9) hb); have n1_ := Aside0.mk (Kd.R_elder' (by (with_reducible repeat first|apply Qa|apply Qb|apply Qc); exact HO250.out) (Kd.R_base ho9) hb); have n2_ := Aside0.mk (Kd.R_lower (Kd.R_new' (Kd.R_new' ho9 (Kd.R_lt (by (with_reducible repeat first|apply Qa|apply Qb|apply Qc); exact HO246.out))) (Kd.R_lt (by (with_reducible repeat first|apply Qa|apply Qb|apply Qc); exact HO250.out))) (below_size (by repeat first|(with_reducible first|exact HB.out|apply Qg|apply Qh|apply Qi)|exact HB.out))); have n3_ := Aside0.mk (below_step (by repeat first|(with_reducible first|exact HB.out|apply Qg|apply Qh|apply Qi)|exact HB.out) hb); clear HO246; clear HO250; clear HB; have HO246 := n0_; have HO250 := n1_; have HO253 := n2_; have HB := n3_; clear n0_ n1_ n2_ n3_; clear hb ho9; obtain ⟨Ao10, co10, eo10⟩ := Kd.R_slice HO250.out; subst eo10; obtain ⟨Ao11, co11, eo11⟩ := Kd.R_slice HO253.out; subst eo11) | (go_at_call 16; (with_reducible refine (sapperlaw12_Same.calls k _ _ t247 _ _ y251 t254 _ ?side1 ?side2 ?side3 ?side4 A3.out).mono ?_); (case side1 => repeat (first | exact (Kd.R_reads' HO250.out).2.2 | (with_reducible first|refine Qd ?_ _|refine Qe ?_ _|refine Qf ?_))); (case side2 => exact (Kd.R_reads' HO250.out).2.1); (case side3 => repeat (first | exact (Kd.R_reads' HO253.out).2.2 | (with_reducible first|refine Qd ?_ _|refine Qe ?_ _|refine Qf ?_))); (case side4 => exact (Kd.R_reads' HO253.out).2.1); rintro e w' ⟨rfl, ⟨nd, rfl⟩⟩))
  go_ret
  exact ⟨by first | rfl | (simp [errW_none, errW_some] <;> rfl) | (simp [*, errW_none, errW_some] <;> rfl), by repeat first|(with_reducible first|exact HB.out|apply Qg|apply Qh|apply Qi)|exact HB.out⟩
 ·rw [if_neg c2] at H
  have c2b0 : (t248 == 0) = false := beq_eq_false_iff_ne.mpr c2
  have c2b1 : (t248 != 0) = true := bne_iff_ne.mpr c2
  obtain rfl := Option.some.inj H
  go_enter Try.func15, Try.ntmps15
  go_wp2_with (first | ((with_reducible refine gate_dst (N := 4) rfl ?_); (try (refine gate_guard (by rfl) ?_; dsimp only)); refine Kd.R_lit (Kd.int .i64) _ 3 ?hg (N := 4) ?hd (xs := ([1, 0, 2, 0, 2, 0] : List Int)) (inner := [.int .i64 1, .int .i64 0, .int .i64 2, .int .i64 0, .int .i64 2, .int .i64 0]) (ok := fun _ => True) (okp := fun _ => True) ?hr ?hp (fun _ hk => hk) trivial (Below.refl _ _) (Nat.le_refl _) (by simp) ?_; (case hd => rfl); (case hg => rfl); (case hr => first | (go_simp; done) | (go_simp; rfl)); (case hp => exact (Reps.one (show Kd.M (Kd.int .i64) _ _ _ 1 [.int .i64 1] from rfl) (Reps.one (show Kd.M (Kd.int .i64) _ _ _ 0 [.int .i64 0] from rfl) (Reps.one (show Kd.M (Kd.int .i64) _ _ _ 2 [.int .i64 2] from rfl) (Reps.one (show Kd.M (Kd.int .i64) _ _ _ 0 [.int .i64 0] from rfl) (Reps.one (show Kd.M (Kd.int .i64) _ _ _ 2 [.int .i64 2] from rfl) (Reps.one (show Kd.M (Kd.int .i64) _ _ _ 0 [.int .i64 0] from rfl) (Reps.none _ _)))))))); intro v245 w12 ho13 hb hg_ hnew_; clear hg_ hnew_; (first | rw [← Ny244.out] at ho13 | (simp only [Int.reduceToNat] at ho13; rw [← Ny244.out] at ho13)); have n0_ := Aside0.mk (Kd.R_lower ho13 (below_size (by repeat first|(with_reducible first|exact HB.out|apply Qg|apply Qh|apply Qi)|exact HB.out))); have n1_ := Aside0.mk (below_step (by repeat first|(with_reducible first|exact HB.out|apply Qg|apply Qh|apply Qi)|exact HB.out) hb); clear HB; have HO246 := n0_; have HB := n1_; clear n0_ n1_; clear hb ho13; obtain ⟨Ao14, co14, eo14⟩ := Kd.R_slice HO246.out; subst eo14) | ((with_reducible refine gate_callee (f := 13) rfl ?_); refine goesL_ (some 5) rfl rfl Try.func13 (by kernel_rfl) rfl #[.int .i64 3, .slice Ao14 y244.length co14] rfl (by (try simp only [List.map_toArray, List.map_cons, List.map_nil]); first | done | rfl | (simp only [List.length_drop, List.length_take]; rfl)) ?_; (with_reducible refine (sais_Array.calls k 3 _ _ y244 t247 t248 _ ?side1 ?side2 A1.out).mono ?_); (case side1 => repeat (first | exact (Kd.R_reads' HO246.out).2.2 | (with_reducible first|refine Qd ?_ _|refine Qe ?_ _|refine Qf ?_))); (case side2 => exact (Kd.R_reads' HO246.out).2.1); rintro e w15 ⟨v249, rfl, ho0, hb⟩; refine ⟨_, rfl, ?_⟩; have n0_ := Aside0.mk (Kd.R_elder' (by (with_reducible repeat first|apply Qa|apply Qb|apply Qc); exact HO246.out) (Kd.R_base ho0) hb); have n1_ := Aside0.mk (Kd.R_lower (Kd.R_new' ho0 (Kd.R_lt (by (with_reducible repeat first|apply Qa|apply Qb|apply Qc); exact HO246.out))) (below_size (by repeat first|(with_reducible first|exact HB.out|apply Qg|apply Qh|apply Qi)|exact HB.out))); have n2_ := Aside0.mk (below_step (by repeat first|(with_reducible first|exact HB.out|apply Qg|apply Qh|apply Qi)|exact HB.out) hb); clear HO246; clear HB; have HO246 := n0_; have HO250 := n1_; have HB := n2_; clear n0_ n1_ n2_; (try clear hb); (try clear hb2); (try clear hk); (try clear hi); (try clear ho0)))
  go_ret
  exact ⟨by first | rfl | (simp [errW_none, errW_some] <;> rfl) | (simp [*, errW_none, errW_some] <;> rfl), by repeat first|(with_reducible first|exact HB.out|apply Qg|apply Qh|apply Qi)|exact HB.out⟩

end Go.Proofs.Ytgnhangjacdfbaa.X
