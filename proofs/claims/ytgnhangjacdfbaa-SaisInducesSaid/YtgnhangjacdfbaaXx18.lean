-- Printed by wip/xprint.py of this repo (a wrapper of the session's own round the print).
import Derived.Test.YtgnhangjacdfbaaXx0
import Derived.Test.YtgnhangjacdfbaaXBA
import Derived.Test.YtgnhangjacdfbaaXx15
namespace Go.Proofs.Ytgnhangjacdfbaa.X
open Go.RowKit Go.Proofs.YtgnhangjacdfbaaW.PrintWords Go.Proofs.YtgnhangjacdfbaaW.PrintLast Go.Proofs.YtgnhangjacdfbaaW.PrintMore
attribute [local go_sem] max2_int min2_int max_two min_two max_three min_three max_four min_four   -- for this text's walks alone
set_option linter.unusedVariables false
set_option linter.unusedSimpArgs false

/-! ### sapperref12_Lms: function 18 -/
def sapperref12_Lms.l0 : Nat → List Int → List Int → Int → List Bool → Option (List Int)
 | 0, _, _, _, _ => none
 | k + 1, x0, x4, x5, x7 => if x5 < (x0.length : Int) then (if 0 ≤ x5 then (if x5 < (x7.length : Int) then (if rdOf false x7 x5 = true then (if 0 ≤ (wrap64 (x5 - 1)) then (if (wrap64 (x5 - 1)) < (x7.length : Int) then (if (rdOf false x7 (wrap64 (x5 - 1)) = true) then (sapperref12_Lms.l0 k x0 x4 (wrap64 (x5 + 1)) x7) else (if x4.length < 17592186044416 then (sapperref12_Lms.l0 k x0 (x4 ++ [x5]) (wrap64 (x5 + 1)) x7) else (none))) else (none)) else (none)) else (sapperref12_Lms.l0 k x0 x4 (wrap64 (x5 + 1)) x7)) else (none)) else (none)) else (some x4)
def sapperref12_Lms.f (k : Nat) (l0 : List Int) : Option (List Int) := (sapperref12_Types.f k l0).bind fun t300 => (sapperref12_Lms.l0 k l0 ([] : List Int) 1 t300)
theorem sapperref12_Lms.mono_l : ∀ k, (∀ y0 y1 y2 y3, LeO (sapperref12_Lms.l0 k y0 y1 y2 y3) (sapperref12_Lms.l0 (k + 1) y0 y1 y2 y3))
 | 0 => fun _ _ _ _ r h => by simp [sapperref12_Lms.l0] at h
 | k + 1 => by
  have ih0 := sapperref12_Lms.mono_l k
  ·intro y0 y1 y2 y3
   unfold sapperref12_Lms.l0
   repeat' first
   | (with_reducible exact ih0 _ _ _ _)
   | (with_reducible exact sapperref12_Types.mono _ _)
   | (with_reducible exact LeO.refl _)
   | (with_reducible exact LeO.none _)
   | (with_reducible refine LeO.ite ?_ ?_)
   | (with_reducible refine LeO.bind ?_ (fun _ => ?_))
   | exact ih0 _ _ _ _
   | exact sapperref12_Types.mono _ _
   | exact LeO.none _
   | refine LeO.ite ?_ ?_
   | refine LeO.bind ?_ (fun _ => ?_)
theorem sapperref12_Lms.mono : ∀ a0 k, LeO (sapperref12_Lms.f k a0) (sapperref12_Lms.f (k + 1) a0) := by
 intro a0 k
 have ih0 := sapperref12_Lms.mono_l k
 unfold sapperref12_Lms.f
 repeat' first
   | (with_reducible exact ih0 _ _ _ _)
   | (with_reducible exact sapperref12_Types.mono _ _)
   | (with_reducible exact LeO.refl _)
   | (with_reducible exact LeO.none _)
   | (with_reducible refine LeO.ite ?_ ?_)
   | (with_reducible refine LeO.bind ?_ (fun _ => ?_))
   | exact ih0 _ _ _ _
   | exact sapperref12_Types.mono _ _
   | exact LeO.none _
   | refine LeO.ite ?_ ?_
   | refine LeO.bind ?_ (fun _ => ?_)
set_option maxHeartbeats 8000000 in
set_option maxRecDepth 100000 in
theorem sapperref12_Lms.calls (k : Nat) (A0 : Option Addr) (c0 : Nat) (l0 : List Int) (r : List Int) (w : World) (hr0 : Kd.C (Kd.int .i64) w A0 l0.length l0) (hc0 : l0.length ≤ c0) (h : sapperref12_Lms.f k l0 = some r) :
  Calls Try.prog 18 #[.slice A0 l0.length c0] w fun e w' => ∃ v0_ : Value, e = .returned (v0_) ∧ Kd.R (Kd.int .i64) 3 w' w.heap.size (fun _ => True) v0_ r ∧ Below w.heap.size w w' := by
 have HR0 := Aside0.mk hr0
 have HC0 := Aside0.mk hc0
 clear hr0 hc0
 have HB := Aside0.mk (Below.refl w.heap.size w)
 have H : ((sapperref12_Types.f k l0).bind fun t300 => (sapperref12_Lms.l0 k l0 ([] : List Int) 1 t300)) = some r := h
 clear h
 replace H := Option.bind_eq_some_iff.mp H
 obtain ⟨t300, A20, H⟩ := H
 replace H : (sapperref12_Lms.l0 k l0 ([] : List Int) 1 t300) = some r := H
 have A2 := Aside0.mk A20
 clear A20
 have H' := Aside0.mk H
 clear H
 go_enter Try.func18, Try.ntmps18
 go_wp2_with (first | ((with_reducible refine gate_callee (f := 17) rfl ?_); refine goesL_ (some 7) rfl rfl Try.func17 (by kernel_rfl) rfl #[.slice A0 l0.length c0] rfl (by (try simp only [List.map_toArray, List.map_cons, List.map_nil]); first | done | rfl | (simp only [List.length_drop, List.length_take]; rfl)) ?_; (with_reducible refine (sapperref12_Types.calls k _ _ l0 t300 _ ?side1 ?side2 A2.out).mono ?_); (case side1 => repeat (first | exact HR0.out | (with_reducible first|refine Qd ?_ _|refine Qe ?_ _|refine Qf ?_))); (case side2 => exact HC0.out); rintro e w3 ⟨v301, rfl, ho0, hb⟩; refine ⟨_, rfl, ?_⟩; have n0_ := Aside0.mk (Kd.R_lower ho0 (below_size (by repeat first|(with_reducible first|exact HB.out|apply Qg|apply Qh|apply Qi)|exact HB.out))); have n1_ := Aside0.mk (below_step (by repeat first|(with_reducible first|exact HB.out|apply Qg|apply Qh|apply Qi)|exact HB.out) hb); clear HB; have HO302 := n0_; have HB := n1_; clear n0_ n1_; (try clear hb); (try clear hb2); (try clear hk); (try clear hi); (try clear ho0)))
 go_loopg [4, 5] k (fun kq v4 v5 w' => ∃ (x4_1 : List Int) (x5_1 : Int), v5 = .int .i64 x5_1 ∧ Aside0 (sapperref12_Lms.l0 kq l0 x4_1 x5_1 t300 = some r) ∧ Aside0 (kq ≤ k) ∧ Aside0 (Kd.R (Kd.int .i64) 3 w' w.heap.size (fun _ => True) v4 x4_1) ∧ Aside0 (Kd.R Kd.bool 4 w' w.heap.size (fun _ => True) v301 t300) ∧ Aside0 (Below w.heap.size w w'))
 case atStart => exact ⟨(([] : List Int)), (1), (by first | rfl | (simp; done) | (simp [*]; done)), H', ⟨Nat.le_refl _⟩, ⟨by first | exact Kd.R_nil _ _ _ _ _ | exact Kd.N_nil _ _ _ _ _ | exact Kd.V_nil _ _ _ _ _ | exact Kd.Q_nil _ _ _ _ _ | exact Kd.S_nil _ _ _ _ _⟩, ⟨by (with_reducible repeat first|apply Qa|apply Qb|apply Qc); exact HO302.out⟩, ⟨by repeat first|(with_reducible first|exact HB.out|apply Qg|apply Qh|apply Qi)|exact HB.out⟩⟩
 case round =>
  clear H'
  try clear c1
  try clear p2
  obtain ⟨x4_1, x5_1, rfl, HA, HK1, HO_4, HO_7, HB⟩ := hrel
  cases gk with
  | zero => exact absurd HA.out (by simp [sapperref12_Lms.l0])
  | succ k1 =>
   have H := HA.out
   clear HA
   simp only [sapperref12_Lms.l0] at H
   by_cases c4 : x5_1 < (l0.length : Int)
   ·rw [if_pos c4] at H
    have c4b0 : decide (x5_1 < (l0.length : Int)) = true := decide_eq_true c4
    clear c4
    by_cases c5 : 0 ≤ x5_1
    ·rw [if_pos c5] at H
     have c5b0 : decide (0 ≤ x5_1) = true := decide_eq_true c5
     clear c5
     by_cases c6 : x5_1 < (t300.length : Int)
     ·rw [if_pos c6] at H
      have c6b0 : decide (x5_1 < (t300.length : Int)) = true := decide_eq_true c6
      clear c6
      obtain ⟨bq7, hbq7⟩ : ∃ b_ : Bool, b_ = (rdOf false t300 x5_1) := ⟨_, rfl⟩
      replace H : (if bq7 = true then (if 0 ≤ (wrap64 (x5_1 - 1)) then (if (wrap64 (x5_1 - 1)) < (t300.length : Int) then (if (rdOf false t300 (wrap64 (x5_1 - 1)) = true) then (sapperref12_Lms.l0 k1 l0 x4_1 (wrap64 (x5_1 + 1)) t300) else (if x4_1.length < 17592186044416 then (sapperref12_Lms.l0 k1 l0 (x4_1 ++ [x5_1]) (wrap64 (x5_1 + 1)) t300) else (none))) else (none)) else (none)) else (sapperref12_Lms.l0 k1 l0 x4_1 (wrap64 (x5_1 + 1)) t300)) = some r := by rw [← hbq7] at H; exact H
      have Nbq7 := Aside0.mk hbq7
      clear hbq7
      by_cases c8 : bq7 = true
      ·subst c8
       have H1 : (if 0 ≤ (wrap64 (x5_1 - 1)) then (if (wrap64 (x5_1 - 1)) < (t300.length : Int) then (if (rdOf false t300 (wrap64 (x5_1 - 1)) = true) then (sapperref12_Lms.l0 k1 l0 x4_1 (wrap64 (x5_1 + 1)) t300) else (if x4_1.length < 17592186044416 then (sapperref12_Lms.l0 k1 l0 (x4_1 ++ [x5_1]) (wrap64 (x5_1 + 1)) t300) else (none))) else (none)) else (none)) = some r := by rw [if_pos rfl] at H; exact H
       clear H
       have H := H1
       clear H1
       obtain ⟨ji9, hji9⟩ : ∃ j_ : Int, (wrap64 (x5_1 - 1)) = j_ := ⟨_, rfl⟩
       replace H : (if 0 ≤ (ji9) then (if (ji9) < (t300.length : Int) then (if (rdOf false t300 (ji9) = true) then (sapperref12_Lms.l0 k1 l0 x4_1 (wrap64 (x5_1 + 1)) t300) else (if x4_1.length < 17592186044416 then (sapperref12_Lms.l0 k1 l0 (x4_1 ++ [x5_1]) (wrap64 (x5_1 + 1)) t300) else (none))) else (none)) else (none)) = some r := by first | (rw [hji9] at H; exact H) | (simp only [hji9] at H ⊢; exact H)
       have hji9w : (IntKind.i64.wrap (x5_1 - 1)) = ji9 := (i64_w _).trans hji9
       by_cases c10 : 0 ≤ (ji9)
       ·rw [if_pos c10] at H
        have c10b0 : decide (0 ≤ (ji9)) = true := decide_eq_true c10
        clear c10
        by_cases c11 : (ji9) < (t300.length : Int)
        ·rw [if_pos c11] at H
         have c11b0 : decide ((ji9) < (t300.length : Int)) = true := decide_eq_true c11
         clear c11
         obtain ⟨bq12, hbq12⟩ : ∃ b_ : Bool, b_ = (rdOf false t300 (ji9)) := ⟨_, rfl⟩
         replace H : (if (bq12 = true) then (sapperref12_Lms.l0 k1 l0 x4_1 (wrap64 (x5_1 + 1)) t300) else (if x4_1.length < 17592186044416 then (sapperref12_Lms.l0 k1 l0 (x4_1 ++ [x5_1]) (wrap64 (x5_1 + 1)) t300) else (none))) = some r := by rw [← hbq12] at H; exact H
         have Nbq12 := Aside0.mk hbq12
         clear hbq12
         by_cases c13 : (bq12 = true)
         ·subst c13
          have H1 : (sapperref12_Lms.l0 k1 l0 x4_1 (wrap64 (x5_1 + 1)) t300) = some r := by rw [if_pos rfl] at H; exact H
          clear H
          have H := H1
          clear H1
          have H' := Aside0.mk H
          clear H
          obtain ⟨Ao14, co14, eo14⟩ := Kd.R_slice HO_7.out
          subst eo14
          have p303 : 0 ≤ (x5_1 : Int) := Qt
          have q303 : x5_1 < (t300.length : Int) := Qt
          obtain ⟨ad303, e303, hx303_0⟩ := Kd.at_bool (Kd.R_reads' HO_7.out).2.2 x5_1 p303 q303
          (try rw [← Nbq7.out] at hx303_0)
          (try rw [← Nbq12.out] at hx303_0)
          cases e303
          replace p303 := eq_true p303
          replace q303 := eq_true q303
          have p304 : 0 ≤ ((ji9) : Int) := Qt
          have q304 : (ji9) < (t300.length : Int) := Qt
          obtain ⟨ad304, e304, hx304_0⟩ := Kd.at_bool (Kd.R_reads' HO_7.out).2.2 (ji9) p304 q304
          (try rw [← Nbq7.out] at hx304_0)
          (try rw [← Nbq12.out] at hx304_0)
          obtain rfl : ad303 = ad304 := (by injection e304)
          replace p304 := eq_true p304
          replace q304 := eq_true q304
          go_wp2
          go_roundg k1
          case measure => have := HK1.out; omega
          case rel => exact ⟨(x4_1), (wrap64 (x5_1 + 1)), (by first | rfl | (simp; done) | (simp [*]; done)), H', ⟨by have := HK1.out; omega⟩, ⟨by (with_reducible repeat first|apply Qa|apply Qb|apply Qc); exact HO_4.out⟩, ⟨by (with_reducible repeat first|apply Qa|apply Qb|apply Qc); exact HO_7.out⟩, ⟨by repeat first|(with_reducible first|exact HB.out|apply Qg|apply Qh|apply Qi)|exact HB.out⟩⟩
         ·replace c13 := Bool.eq_false_iff.mpr c13
          subst c13
          have H1 : (if x4_1.length < 17592186044416 then (sapperref12_Lms.l0 k1 l0 (x4_1 ++ [x5_1]) (wrap64 (x5_1 + 1)) t300) else (none)) = some r := by rw [if_neg (show ¬ (false = true) by decide)] at H; exact H
          clear H
          have H := H1
          clear H1
          by_cases c15 : x4_1.length < 17592186044416
          ·rw [if_pos c15] at H
           have LMc15 := Aside0.mk c15
           clear c15
           obtain ⟨y305, hy305⟩ : ∃ y_ : List Int, y_ = (x4_1 ++ [x5_1]) := ⟨_, rfl⟩
           replace H : (sapperref12_Lms.l0 k1 l0 y305 (wrap64 (x5_1 + 1)) t300) = some r := by first | (rw [hy305]; with_reducible exact H) | (have H2_ := (Option.bind_some _ _).symm.trans H; rw [hy305]; with_reducible exact H2_) | (have H2_ := (Option.bind_some _ _).symm.trans H; with_reducible exact H2_) | with_reducible exact H | (rw [hy305]; exact H) | exact H
           have Ny305 := Aside0.mk hy305
           clear hy305
           have H' := Aside0.mk H
           clear H
           obtain ⟨Ao16, co16, eo16⟩ := Kd.R_slice HO_7.out
           subst eo16
           have p303 : 0 ≤ (x5_1 : Int) := Qt
           have q303 : x5_1 < (t300.length : Int) := Qt
           obtain ⟨ad303, e303, hx303_0⟩ := Kd.at_bool (Kd.R_reads' HO_7.out).2.2 x5_1 p303 q303
           (try rw [← Nbq7.out] at hx303_0)
           (try rw [← Nbq12.out] at hx303_0)
           cases e303
           replace p303 := eq_true p303
           replace q303 := eq_true q303
           have p304 : 0 ≤ ((ji9) : Int) := Qt
           have q304 : (ji9) < (t300.length : Int) := Qt
           obtain ⟨ad304, e304, hx304_0⟩ := Kd.at_bool (Kd.R_reads' HO_7.out).2.2 (ji9) p304 q304
           (try rw [← Nbq7.out] at hx304_0)
           (try rw [← Nbq12.out] at hx304_0)
           obtain rfl : ad303 = ad304 := (by injection e304)
           replace p304 := eq_true p304
           replace q304 := eq_true q304
           go_wp2_with (first | ((with_reducible refine gate_builtin (b := .append) (xs := #[.tmp 26, .tmp 28]) rfl ?_); at_builtin; refine Kd.R_append (Kd.int .i64) (w0 := w) w.heap.size rfl (.tmp 26) (.tmp 28) 22 3 (.int .i64 0) 8 rfl Try.underlying22 info3 rfl (by decide) (by omega) u4 x4_1 x5_1 [.int .i64 x5_1] (fun _ => True) (fun _ => False) rfl rfl ?aP (fun _ hk => hk.elim) ?aF ?aO ?aB ?aS ?aL ?_; (case aP => exact rfl); (case aB => exact (by repeat first|(with_reducible first|exact HB.out|apply Qg|apply Qh|apply Qi)|exact HB.out)); (case aF => exact (fun _ _ => trivial)); (case aO => exact (by (with_reducible repeat first|apply Qa|apply Qb|apply Qc); exact HO_4.out)); (case aS => exact (below_size (by repeat first|(with_reducible first|exact HB.out|apply Qg|apply Qh|apply Qi)|exact HB.out))); (case aL => have := LMc15.out; omega); intro v306 w17 ho hb hg hat; rw [← Ny305.out] at ho; have n0_ := Aside0.mk (Kd.R_over' (by (with_reducible repeat first|apply Qa|apply Qb|apply Qc); exact HO_7.out) (Kd.R_typed (by (with_reducible repeat first|apply Qa|apply Qb|apply Qc); exact HO_4.out)) (by decide) hg); have n1_ := Aside0.mk (hb); have n2_ := Aside0.mk (ho); clear HO_7; clear HB; clear HO_4; have HO_7 := n0_; have HB := n1_; have HO307 := n2_; clear n0_ n1_ n2_; clear ho hb hg hat))
           go_roundg k1
           case measure => have := HK1.out; omega
           case rel => exact ⟨(y305), (wrap64 (x5_1 + 1)), (by first | rfl | (simp; done) | (simp [*]; done)), H', ⟨by have := HK1.out; omega⟩, ⟨by (with_reducible repeat first|apply Qa|apply Qb|apply Qc); exact HO307.out⟩, ⟨by (with_reducible repeat first|apply Qa|apply Qb|apply Qc); exact HO_7.out⟩, ⟨by repeat first|(with_reducible first|exact HB.out|apply Qg|apply Qh|apply Qi)|exact HB.out⟩⟩
          ·rw [if_neg c15] at H
           exact absurd H (by simp)
        ·rw [if_neg c11] at H
         exact absurd H (by simp)
       ·rw [if_neg c10] at H
        exact absurd H (by simp)
      ·replace c8 := Bool.eq_false_iff.mpr c8
       subst c8
       have H1 : (sapperref12_Lms.l0 k1 l0 x4_1 (wrap64 (x5_1 + 1)) t300) = some r := by rw [if_neg (show ¬ (false = true) by decide)] at H; exact H
       clear H
       have H := H1
       clear H1
       have H' := Aside0.mk H
       clear H
       obtain ⟨Ao18, co18, eo18⟩ := Kd.R_slice HO_7.out
       subst eo18
       have p303 : 0 ≤ (x5_1 : Int) := Qt
       have q303 : x5_1 < (t300.length : Int) := Qt
       obtain ⟨ad303, e303, hx303_0⟩ := Kd.at_bool (Kd.R_reads' HO_7.out).2.2 x5_1 p303 q303
       (try rw [← Nbq7.out] at hx303_0)
       cases e303
       replace p303 := eq_true p303
       replace q303 := eq_true q303
       go_wp2
       go_roundg k1
       case measure => have := HK1.out; omega
       case rel => exact ⟨(x4_1), (wrap64 (x5_1 + 1)), (by first | rfl | (simp; done) | (simp [*]; done)), H', ⟨by have := HK1.out; omega⟩, ⟨by (with_reducible repeat first|apply Qa|apply Qb|apply Qc); exact HO_4.out⟩, ⟨by (with_reducible repeat first|apply Qa|apply Qb|apply Qc); exact HO_7.out⟩, ⟨by repeat first|(with_reducible first|exact HB.out|apply Qg|apply Qh|apply Qi)|exact HB.out⟩⟩
     ·rw [if_neg c6] at H
      exact absurd H (by simp)
    ·rw [if_neg c5] at H
     exact absurd H (by simp)
   ·rw [if_neg c4] at H
    have c4b0 : decide (x5_1 < (l0.length : Int)) = false := decide_eq_false c4
    clear c4
    obtain rfl := Option.some.inj H
    go_wp2
    go_ret
    exact ⟨_, by first | rfl | (simp [errW_none, errW_some] <;> rfl) | (simp [*, errW_none, errW_some] <;> rfl), by (with_reducible repeat first|apply Qa|apply Qb|apply Qc); exact HO_4.out, by repeat first|(with_reducible first|exact HB.out|apply Qg|apply Qh|apply Qi)|exact HB.out⟩

end Go.Proofs.Ytgnhangjacdfbaa.X
