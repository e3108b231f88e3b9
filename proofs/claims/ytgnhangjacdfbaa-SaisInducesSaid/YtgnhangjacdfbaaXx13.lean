-- Printed by wip/xprint.py of this repo (a wrapper of the session's own round the print).
import Derived.Test.YtgnhangjacdfbaaXx0
import Derived.Test.YtgnhangjacdfbaaXBA
namespace Go.Proofs.Ytgnhangjacdfbaa.X
open Go.RowKit Go.Proofs.YtgnhangjacdfbaaW.PrintWords Go.Proofs.YtgnhangjacdfbaaW.PrintLast Go.Proofs.YtgnhangjacdfbaaW.PrintMore
attribute [local go_sem] max2_int min2_int max_two min_two max_three min_three max_four min_four   -- for this text's walks alone
set_option linter.unusedVariables false
set_option linter.unusedSimpArgs false

/-! ### sapperlaw12_lend: function 19 -/
def sapperlaw12_lend.f (l0 : List Int) : Option (List Int) := if ([] : List Int).length + l0.length < 17592186044416 then ((some (([] : List Int) ++ l0 : List Int)).bind fun y255 => ((some (([71, 72, 73, 74] : List Int) : List Int)).bind fun y258 => (if y255.length + y258.length < 17592186044416 then (some (y255 ++ y258)) else (none)))) else (none)
set_option maxHeartbeats 8000000 in
set_option maxRecDepth 100000 in
theorem sapperlaw12_lend.calls (A0 : Option Addr) (c0 : Nat) (l0 : List Int) (r : List Int) (w : World) (hr0 : Kd.C (Kd.int .i64) w A0 l0.length l0) (hc0 : l0.length ≤ c0) (h : sapperlaw12_lend.f l0 = some r) :
  Calls Try.prog 19 #[.slice A0 l0.length c0] w fun e w' => ∃ v0_ : Value, e = .returned (v0_) ∧ Kd.R (Kd.int .i64) 3 w' w.heap.size (fun _ => True) v0_ r ∧ Below w.heap.size w w' := by
 have HR0 := Aside0.mk hr0
 have HC0 := Aside0.mk hc0
 clear hr0 hc0
 have HB := Aside0.mk (Below.refl w.heap.size w)
 have H : (if ([] : List Int).length + l0.length < 17592186044416 then ((some (([] : List Int) ++ l0 : List Int)).bind fun y255 => ((some (([71, 72, 73, 74] : List Int) : List Int)).bind fun y258 => (if y255.length + y258.length < 17592186044416 then (some (y255 ++ y258)) else (none)))) else (none)) = some r := h
 clear h
 by_cases c2 : ([] : List Int).length + l0.length < 17592186044416
 ·rw [if_pos c2] at H
  have LMc2 := Aside0.mk c2
  clear c2
  obtain ⟨y255, hy255⟩ : ∃ y_ : List Int, y_ = (([] : List Int) ++ l0) := ⟨_, rfl⟩
  replace H : ((some (([71, 72, 73, 74] : List Int) : List Int)).bind fun y258 => (if y255.length + y258.length < 17592186044416 then (some (y255 ++ y258)) else (none))) = some r := by first | (rw [hy255]; with_reducible exact H) | (have H2_ := (Option.bind_some _ _).symm.trans H; rw [hy255]; with_reducible exact H2_) | (have H2_ := (Option.bind_some _ _).symm.trans H; with_reducible exact H2_) | with_reducible exact H | (rw [hy255]; exact H) | exact H
  have Ny255 := Aside0.mk hy255
  clear hy255
  obtain ⟨y258, hy258⟩ : ∃ y_ : List Int, y_ = (([71, 72, 73, 74] : List Int)) := ⟨_, rfl⟩
  replace H : (if y255.length + y258.length < 17592186044416 then (some (y255 ++ y258)) else (none)) = some r := by first | (rw [hy258]; with_reducible exact H) | (have H2_ := (Option.bind_some _ _).symm.trans H; rw [hy258]; with_reducible exact H2_) | (have H2_ := (Option.bind_some _ _).symm.trans H; with_reducible exact H2_) | with_reducible exact H | (rw [hy258]; exact H) | exact H
  have Ny258 := Aside0.mk hy258
  clear hy258
  by_cases c3 : y255.length + y258.length < 17592186044416
  ·rw [if_pos c3] at H
   have LMc3 := Aside0.mk c3
   clear c3
   obtain ⟨y261, hy261⟩ : ∃ y_ : List Int, y_ = (y255 ++ y258) := ⟨_, rfl⟩
   replace H : (some y261) = some r := by first | (rw [hy261]; with_reducible exact H) | (have H2_ := (Option.bind_some _ _).symm.trans H; rw [hy261]; with_reducible exact H2_) | (have H2_ := (Option.bind_some _ _).symm.trans H; with_reducible exact H2_) | with_reducible exact H | (rw [hy261]; exact H) | exact H
   have Ny261 := Aside0.mk hy261
   clear hy261
   obtain rfl := Option.some.inj H
   go_enter Try.func19, Try.ntmps19
   go_wp2_with (first | ((with_reducible refine gate_builtin (b := .append) (xs := #[.const (.slice none 0 0), .tmp 3]) rfl ?_); at_builtin; refine Kd.R_append_rows (Kd.int .i64) (w0 := w) w.heap.size rfl (.const (.slice none 0 0)) (.tmp 3) 22 3 (.int .i64 0) 8 rfl Try.underlying22 info3 rfl (by decide) (by omega) (.slice none 0 0) ([] : List Int) l0 _ _ _ (fun _ => True) (fun _ => False) rfl rfl ?aO ?aR (fun _ _ h => h) (fun _ h => h.elim) ?aF ?aB ?aS ?aL ?_; (case aR => repeat (first | exact HR0.out | (with_reducible first|refine Qd ?_ _|refine Qe ?_ _|refine Qf ?_))); (case aB => exact (by repeat first|(with_reducible first|exact HB.out|apply Qg|apply Qh|apply Qi)|exact HB.out)); (case aF => exact (fun _ _ => trivial)); (case aO => exact ((Kd.R_nil _ _ _ _ (fun _ => True)))); (case aS => exact (below_size (by repeat first|(with_reducible first|exact HB.out|apply Qg|apply Qh|apply Qi)|exact HB.out))); (case aL => have := LMc2.out; omega); intro v256 w4 ho hb hg hat; rw [← Ny255.out] at ho; have n0_ := Aside0.mk (hb); have n1_ := Aside0.mk (ho); clear HB; have HB := n0_; have HO257 := n1_; clear n0_ n1_; clear ho hb hg hat) | ((with_reducible refine gate_dst (N := 5) rfl ?_); refine Kd.R_lit (Kd.int .i64) _ 3 ?hg (N := 5) ?hd (xs := ([71, 72, 73, 74] : List Int)) (inner := [.int .i64 71, .int .i64 72, .int .i64 73, .int .i64 74]) (ok := fun _ => True) (okp := fun _ => True) ?hr ?hp (fun _ hk => hk) trivial (Below.refl _ _) (Nat.le_refl _) (by simp) ?_; (case hd => rfl); (case hg => rfl); (case hr => first | (go_simp; done) | (go_simp; rfl)); (case hp => exact (Reps.one (show Kd.M (Kd.int .i64) _ _ _ 71 [.int .i64 71] from rfl) (Reps.one (show Kd.M (Kd.int .i64) _ _ _ 72 [.int .i64 72] from rfl) (Reps.one (show Kd.M (Kd.int .i64) _ _ _ 73 [.int .i64 73] from rfl) (Reps.one (show Kd.M (Kd.int .i64) _ _ _ 74 [.int .i64 74] from rfl) (Reps.none _ _)))))); intro v259 w5 ho6 hb hg_ hnew_; clear hg_ hnew_; (first | rw [← Ny258.out] at ho6 | (simp only [Int.reduceToNat] at ho6; rw [← Ny258.out] at ho6)); have n0_ := Aside0.mk (Kd.R_elder' (by (with_reducible repeat first|apply Qa|apply Qb|apply Qc); exact HO257.out) (Kd.R_base ho6) hb); have n1_ := Aside0.mk (Kd.R_lower (Kd.R_new' ho6 (Kd.R_lt (by (with_reducible repeat first|apply Qa|apply Qb|apply Qc); exact HO257.out))) (below_size (by repeat first|(with_reducible first|exact HB.out|apply Qg|apply Qh|apply Qi)|exact HB.out))); have n2_ := Aside0.mk (below_step (by repeat first|(with_reducible first|exact HB.out|apply Qg|apply Qh|apply Qi)|exact HB.out) hb); clear HO257; clear HB; have HO257 := n0_; have HO260 := n1_; have HB := n2_; clear n0_ n1_ n2_; clear hb ho6; obtain ⟨Ao8, co8, eo8⟩ := Kd.R_slice HO260.out; subst eo8) | ((with_reducible refine gate_builtin (b := .append) (xs := #[.tmp 4, .tmp 5]) rfl ?_); at_builtin; refine Kd.R_append_rows (Kd.int .i64) (w0 := w) w.heap.size rfl (.tmp 4) (.tmp 5) 22 3 (.int .i64 0) 8 rfl Try.underlying22 info3 rfl (by decide) (by omega) v256 y255 y258 _ _ _ (fun k_ => some k_ ≠ (.slice Ao8 y258.length co8 : Value).ownBlock) (fun _ => False) rfl rfl ?aO ?aR (fun _ _ h => h) (fun _ h => h.elim) ?aF ?aB ?aS ?aL ?_; (case aR => repeat (first | exact (Kd.R_reads' HO260.out).2.2 | (with_reducible first|refine Qd ?_ _|refine Qe ?_ _|refine Qf ?_))); (case aB => exact (by repeat first|(with_reducible first|exact HB.out|apply Qg|apply Qh|apply Qi)|exact HB.out)); (case aF => exact (fun k_ hk => Kd.fresh' (Kd.R_lt (by (with_reducible repeat first|apply Qa|apply Qb|apply Qc); exact HO260.out)) k_ hk)); (case aO => exact (by (with_reducible repeat first|apply Qa|apply Qb|apply Qc); exact Kd.R_mono HO257.out (fun _ hk => hk.2))); (case aS => exact (below_size (by repeat first|(with_reducible first|exact HB.out|apply Qg|apply Qh|apply Qi)|exact HB.out))); (case aL => have := LMc3.out; omega); intro v262 w7 ho hb hg hat; rw [← Ny261.out] at ho; have n0_ := Aside0.mk (Kd.R_after (ok := (fun _ => True)) (by (with_reducible repeat first|apply Qa|apply Qb|apply Qc); exact HO260.out) hg hat); have n1_ := Aside0.mk (hb); have n2_ := Aside0.mk (ho); clear HO260; clear HB; clear HO257; have HO260 := n0_; have HB := n1_; have HO263 := n2_; clear n0_ n1_ n2_; clear ho hb hg hat))
   go_ret
   exact ⟨_, by first | rfl | (simp [errW_none, errW_some] <;> rfl) | (simp [*, errW_none, errW_some] <;> rfl), by (with_reducible repeat first|apply Qa|apply Qb|apply Qc); exact Kd.R_mono HO263.out (fun _ hk => trivial), by repeat first|(with_reducible first|exact HB.out|apply Qg|apply Qh|apply Qi)|exact HB.out⟩
  ·rw [if_neg c3] at H
   exact absurd H (by simp)
 ·rw [if_neg c2] at H
  exact absurd H (by simp)

end Go.Proofs.Ytgnhangjacdfbaa.X
