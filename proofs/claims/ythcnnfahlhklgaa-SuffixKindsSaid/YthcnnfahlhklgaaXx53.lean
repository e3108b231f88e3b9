-- Printed by wip/xprint.py of this repo (a wrapper of the session's own round the print).
import Derived.Test.YthcnnfahlhklgaaXx0
import Derived.Test.YthcnnfahlhklgaaXBA
import Derived.Test.YthcnnfahlhklgaaXx1
import Derived.Test.YthcnnfahlhklgaaXx14
import Derived.Test.YthcnnfahlhklgaaXx20
import Derived.Test.YthcnnfahlhklgaaXx21
import Derived.Test.YthcnnfahlhklgaaXx22
import Derived.Test.YthcnnfahlhklgaaXx23
import Derived.Test.YthcnnfahlhklgaaXx27
import Derived.Test.YthcnnfahlhklgaaXx49
import Derived.Test.YthcnnfahlhklgaaXx52
namespace Go.Proofs.Ythcnnfahlhklgaa.X
open Go.RowKit Go.Proofs.YthcnnfahlhklgaaW.PrintWords Go.Proofs.YthcnnfahlhklgaaW.PrintLast Go.Proofs.YthcnnfahlhklgaaW.PrintMore
attribute [local go_sem] ptrOf_eql ptrOf_neq ptrOf_eqg ptrOf_neg str_leq str_geq str_gtr max2_int min2_int max_two min_two max_three min_three max_four min_four   -- for this text's walks alone
set_option linter.unusedVariables false
set_option linter.unusedSimpArgs false

attribute [local go_sem high] eqA80
/-! ### sapperlaw13_SuffixKinds: function 13 -/
mutual
noncomputable def sapperlaw13_SuffixKinds.j0 : Nat→List Int→Int→Int→List (S82)→Bool→Option (Bool)
 | 0,_,_,_,_,_=>none
 | k + 1,x0,x1,x2,x7,x39=>if x39 = true then (some false) else ((suffix_Index_Kth.f k x7 x1).bind fun bt373=>((suffix_Index_Kth.f k x7 x1).bind fun bt377=>((sapperref13_Kth.f k x0 x1).bind fun bt381=>(if (bt381.2 != (bt373.2 == 0)) = true then (sapperlaw13_SuffixKinds.j1 k x0 x2 x7 true) else (if bt381.2 = true then ((sapperref01_Same.f bt373.1 bt381.1).bind fun t385=>(if t385 = true then ((sapperref01_Same.f bt377.1 bt381.1).bind fun t386=>(if t386 = true then ((sapperref01_Own.f (([bt373.1,bt377.1] : List (List Int)))).bind fun t390=>(sapperlaw13_SuffixKinds.j1 k x0 x2 x7 (!t390))) else (sapperlaw13_SuffixKinds.j1 k x0 x2 x7 true))) else (sapperlaw13_SuffixKinds.j1 k x0 x2 x7 true))) else (if bt373.2 = 132 then ((sapperref01_Same.f bt373.1 bt381.1).bind fun t391=>(if t391 = true then ((sapperref01_Same.f bt377.1 bt381.1).bind fun t392=>(if t392 = true then ((sapperref01_Own.f (([bt373.1,bt377.1] : List (List Int)))).bind fun t396=>(sapperlaw13_SuffixKinds.j1 k x0 x2 x7 (!t396))) else (sapperlaw13_SuffixKinds.j1 k x0 x2 x7 true))) else (sapperlaw13_SuffixKinds.j1 k x0 x2 x7 true))) else (sapperlaw13_SuffixKinds.j1 k x0 x2 x7 true)))))))
noncomputable def sapperlaw13_SuffixKinds.j1 : Nat→List Int→Int→List (S82)→Bool→Option (Bool)
 | 0,_,_,_,_=>none
 | k + 1,x0,x2,x7,x88=>if x88 = true then (some false) else ((suffix_Index_Repeats.f x7 x2).bind fun bt397=>(if x2 < 1 then (if (bt397.1.length : Int) = 0 then (if bt397.2 = 1 then ((sapperlaw13_lives.f k).bind fun t401=>(some t401)) else (some false)) else (some false)) else ((sapperref13_Repeats.f k x0 x2).bind fun t402=>(if bt397.2 = 0 then (sapperlaw13_SuffixKinds.j2 k bt397.1 t402 ((bt397.1.length : Int) != (t402.length : Int))) else (sapperlaw13_SuffixKinds.j2 k bt397.1 t402 true)))))
noncomputable def sapperlaw13_SuffixKinds.j2 : Nat→List (S80)→List (S79)→Bool→Option (Bool)
 | 0,_,_,_=>none
 | k + 1,x15,x17,x118=>if x118 = true then (some false) else (sapperlaw13_SuffixKinds.l0 k x15 x17 (x17.length : Int) 0)
noncomputable def sapperlaw13_SuffixKinds.l0 : Nat→List (S80)→List (S79)→Int→Int→Option (Bool)
 | 0,_,_,_,_=>none
 | k + 1,x15,x17,x120,x121=>if x121 < x120 then (if 0≤x121 then (if x121 < (x17.length : Int) then (if x121 < (x15.length : Int) then (if (!(((rd_T80 x15 x121).f0) == ((rd_T79 x17 x121).f0)) || (!(((rd_T80 x15 x121).f1) == ((rd_T79 x17 x121).f1)) || (!(((rd_T80 x15 x121).f2) == ((rd_T79 x17 x121).f2))))) = true then (some false) else (sapperlaw13_SuffixKinds.l0 k x15 x17 x120 (wrap64 (x121 + 1)))) else (none)) else (none)) else (none)) else ((sapperlaw13_lives.f k).bind fun t408=>(some t408))
end
noncomputable def sapperlaw13_SuffixKinds.f (k : Nat) (l0 : List Int) (a1 : Int) (a2 : Int) : Option (Bool):=(suffix_New.f k l0).bind fun bt369=>(if (l0.length : Int) > 16777216 then (if (bt369.1.length : Int) = 0 then (some (bt369.2 == 130)) else (some false)) else (if bt369.2 = 0 then (sapperlaw13_SuffixKinds.j0 k l0 a1 a2 bt369.1 ((bt369.1.length : Int) == 0)) else (sapperlaw13_SuffixKinds.j0 k l0 a1 a2 bt369.1 true)))
theorem sapperlaw13_SuffixKinds.mono_l : ∀ k,(∀ y0 y1 y2 y3 y4,LeO (sapperlaw13_SuffixKinds.j0 k y0 y1 y2 y3 y4) (sapperlaw13_SuffixKinds.j0 (k + 1) y0 y1 y2 y3 y4))∧(∀ y0 y1 y2 y3,LeO (sapperlaw13_SuffixKinds.j1 k y0 y1 y2 y3) (sapperlaw13_SuffixKinds.j1 (k + 1) y0 y1 y2 y3))∧(∀ y0 y1 y2,LeO (sapperlaw13_SuffixKinds.j2 k y0 y1 y2) (sapperlaw13_SuffixKinds.j2 (k + 1) y0 y1 y2))∧(∀ y0 y1 y2 y3,LeO (sapperlaw13_SuffixKinds.l0 k y0 y1 y2 y3) (sapperlaw13_SuffixKinds.l0 (k + 1) y0 y1 y2 y3))
 | 0=>⟨fun _ _ _ _ _ r h=>by simp [sapperlaw13_SuffixKinds.j0] at h,fun _ _ _ _ r h=>by simp [sapperlaw13_SuffixKinds.j1] at h,fun _ _ _ r h=>by simp [sapperlaw13_SuffixKinds.j2] at h,fun _ _ _ _ r h=>by simp [sapperlaw13_SuffixKinds.l0] at h⟩
 | k + 1=>by
  obtain ⟨ih0,ih1,ih2,ih3⟩:=sapperlaw13_SuffixKinds.mono_l k
  refine ⟨?_,?_,?_,?_⟩
  intro y0 y1 y2 y3 y4; unfold sapperlaw13_SuffixKinds.j0; rotate_left
  intro y0 y1 y2 y3; unfold sapperlaw13_SuffixKinds.j1; rotate_left
  intro y0 y1 y2; unfold sapperlaw13_SuffixKinds.j2; rotate_left
  intro y0 y1 y2 y3; unfold sapperlaw13_SuffixKinds.l0; rotate_left
  all_goals
   repeat' first
   | (with_reducible exact ih0 _ _ _ _ _)
   | (with_reducible exact ih1 _ _ _ _)
   | (with_reducible exact ih2 _ _ _)
   | (with_reducible exact ih3 _ _ _ _)
   | (with_reducible exact sapperlaw13_lives.mono _)
   | (with_reducible exact sapperref13_Kth.mono _ _ _)
   | (with_reducible exact sapperref13_Repeats.mono _ _ _)
   | (with_reducible exact suffix_Index_Kth.mono _ _ _)
   | (with_reducible exact suffix_New.mono _ _)
   | (with_reducible exact LeO.refl _)
   | (with_reducible exact LeO.none _)
   | (with_reducible refine LeO.ite ?_ ?_)
   | (with_reducible refine LeO.bind ?_ (fun _=>?_))
   | exact ih0 _ _ _ _ _
   | exact ih1 _ _ _ _
   | exact ih2 _ _ _
   | exact ih3 _ _ _ _
   | exact sapperlaw13_lives.mono _
   | exact sapperref13_Kth.mono _ _ _
   | exact sapperref13_Repeats.mono _ _ _
   | exact suffix_Index_Kth.mono _ _ _
   | exact suffix_New.mono _ _
   | exact LeO.none _
   | refine LeO.ite ?_ ?_
   | refine LeO.bind ?_ (fun _=>?_)
theorem sapperlaw13_SuffixKinds.mono : ∀ a0 a1 a2 k,LeO (sapperlaw13_SuffixKinds.f k a0 a1 a2) (sapperlaw13_SuffixKinds.f (k + 1) a0 a1 a2):=by
 intro a0 a1 a2 k
 obtain ⟨ih0,ih1,ih2,ih3⟩:=sapperlaw13_SuffixKinds.mono_l k
 unfold sapperlaw13_SuffixKinds.f
 repeat' first
   | (with_reducible exact ih0 _ _ _ _ _)
   | (with_reducible exact ih1 _ _ _ _)
   | (with_reducible exact ih2 _ _ _)
   | (with_reducible exact ih3 _ _ _ _)
   | (with_reducible exact sapperlaw13_lives.mono _)
   | (with_reducible exact sapperref13_Kth.mono _ _ _)
   | (with_reducible exact sapperref13_Repeats.mono _ _ _)
   | (with_reducible exact suffix_Index_Kth.mono _ _ _)
   | (with_reducible exact suffix_New.mono _ _)
   | (with_reducible exact LeO.refl _)
   | (with_reducible exact LeO.none _)
   | (with_reducible refine LeO.ite ?_ ?_)
   | (with_reducible refine LeO.bind ?_ (fun _=>?_))
   | exact ih0 _ _ _ _ _
   | exact ih1 _ _ _ _
   | exact ih2 _ _ _
   | exact ih3 _ _ _ _
   | exact sapperlaw13_lives.mono _
   | exact sapperref13_Kth.mono _ _ _
   | exact sapperref13_Repeats.mono _ _ _
   | exact suffix_Index_Kth.mono _ _ _
   | exact suffix_New.mono _ _
   | exact LeO.none _
   | refine LeO.ite ?_ ?_
   | refine LeO.bind ?_ (fun _=>?_)
set_option maxHeartbeats 8000000 in
set_option maxRecDepth 100000 in
theorem sapperlaw13_SuffixKinds.calls (k : Nat) (A0 : Option Addr) (c0 : Nat) (l0 : List Int) (a1 : Int) (a2 : Int) (r : Bool) (w : World) (hr0 : Kd.C (Kd.int .u8) w A0 l0.length l0) (hc0 : l0.length≤c0) (h : sapperlaw13_SuffixKinds.f k l0 a1 a2 = some r) :
  Calls Try.prog 13 #[.slice A0 l0.length c0,.int .i64 a1,.int .i64 a2] w fun e w'=>e = .returned (.bool r)∧Below w.heap.size w w':=by
 have hu79:=Try.underlying79
 have hu80:=Try.underlying80
 have HR0:=Aside0.mk hr0
 have HC0:=Aside0.mk hc0
 clear hr0 hc0
 have HB:=Aside0.mk (Below.refl w.heap.size w)
 have H : ((suffix_New.f k l0).bind fun bt369=>(if (l0.length : Int) > 16777216 then (if (bt369.1.length : Int) = 0 then (some (bt369.2 == 130)) else (some false)) else (if bt369.2 = 0 then (sapperlaw13_SuffixKinds.j0 k l0 a1 a2 bt369.1 ((bt369.1.length : Int) == 0)) else (sapperlaw13_SuffixKinds.j0 k l0 a1 a2 bt369.1 true)))) = some r:=h
 clear h
 replace H:=Option.bind_eq_some_iff.mp H
 obtain ⟨⟨t369,t370⟩,A40,H⟩:=H
 replace H : (if (l0.length : Int) > 16777216 then (if (t369.length : Int) = 0 then (some (t370 == 130)) else (some false)) else (if t370 = 0 then (sapperlaw13_SuffixKinds.j0 k l0 a1 a2 t369 ((t369.length : Int) == 0)) else (sapperlaw13_SuffixKinds.j0 k l0 a1 a2 t369 true))) = some r:=H
 have A4:=Aside0.mk A40
 clear A40
 by_cases c5 : (l0.length : Int) > 16777216
 ·rw [if_pos c5] at H
  have c5b0 : decide (16777216 < (l0.length : Int)) = true:=decide_eq_true c5
  have c5b1 : decide (16777216 < l0.length) = true:=decide_eq_true (by omega)
  clear c5
  by_cases c6 : (t369.length : Int) = 0
  ·rw [if_pos c6] at H
   have c6b0 : ((t369.length : Int) == 0) = true:=beq_iff_eq.mpr c6
   have c6b1 : ((t369.length : Int) != 0) = false:=bne_eq_false_iff_eq.mpr c6
   clear c6
   obtain rfl:=Option.some.inj H
   go_enter Try.func13,Try.ntmps13
   go_wp2_with (first | (go_at_call 16; (with_reducible refine (suffix_New.calls k _ _ l0 t369 t370 _ ?side1 ?side2 A4.out).mono ?_); (case side1=>exact HR0.out); (case side2=>exact HC0.out); rintro e w7 ⟨v371,rfl,ho0,hb⟩; have n0_:=Aside0.mk (Kd.N_lower (Kd.N_mono (ok':=fun k_=>True) (Kd.S_N (Kd.S_bound ho0)) (fun k_ hk_=>trivial)) (below_size HB.out)); have n1_:=Aside0.mk (below_step HB.out hb); clear HB; have HO372:=n0_; have HB:=n1_; clear n0_ n1_; obtain ⟨Ao8,co8,eo8⟩:=Kd.N_slice HO372.out; subst eo8))
   go_ret
   exact ⟨rfl,HB.out⟩
  ·rw [if_neg c6] at H
   have c6b0 : ((t369.length : Int) == 0) = false:=beq_eq_false_iff_ne.mpr c6
   have c6b1 : ((t369.length : Int) != 0) = true:=bne_iff_ne.mpr c6
   have c6b2 : ¬ (t369 = []):=fun h_=>c6 (by rw [h_]; rfl)
   obtain rfl:=Option.some.inj H
   go_enter Try.func13,Try.ntmps13
   go_wp2_with (first | (go_at_call 16; (with_reducible refine (suffix_New.calls k _ _ l0 t369 t370 _ ?side1 ?side2 A4.out).mono ?_); (case side1=>exact HR0.out); (case side2=>exact HC0.out); rintro e w9 ⟨v371,rfl,ho0,hb⟩; have n0_:=Aside0.mk (Kd.N_lower (Kd.N_mono (ok':=fun k_=>True) (Kd.S_N (Kd.S_bound ho0)) (fun k_ hk_=>trivial)) (below_size HB.out)); have n1_:=Aside0.mk (below_step HB.out hb); clear HB; have HO372:=n0_; have HB:=n1_; clear n0_ n1_; obtain ⟨Ao10,co10,eo10⟩:=Kd.N_slice HO372.out; subst eo10))
   go_ret
   exact ⟨rfl,HB.out⟩
 ·rw [if_neg c5] at H
  have c5b0 : decide (16777216 < (l0.length : Int)) = false:=decide_eq_false c5
  have c5b1 : decide (16777216 < l0.length) = false:=decide_eq_false (by omega)
  clear c5
  have HC11:=Aside0.mk H
  clear H
  go_enter Try.func13,Try.ntmps13
  go_upto_region 4 with (first | (go_at_call 16; (with_reducible refine (suffix_New.calls k _ _ l0 t369 t370 _ ?side1 ?side2 A4.out).mono ?_); (case side1=>exact HR0.out); (case side2=>exact HC0.out); rintro e w12 ⟨v371,rfl,ho0,hb⟩; have n0_:=Aside0.mk (Kd.N_lower (Kd.N_mono (ok':=fun k_=>True) (Kd.S_N (Kd.S_bound ho0)) (fun k_ hk_=>trivial)) (below_size HB.out)); have n1_:=Aside0.mk (below_step HB.out hb); clear HB; have HO372:=n0_; have HB:=n1_; clear n0_ n1_))
  (try simp only [Act.put,List.setIfInBounds_toArray,List.set_cons_zero,List.set_cons_succ])
  go_cut [39] (fun v39 wc=>∃ (kq : Nat) (x39_10 : Bool),v39 = .bool x39_10∧Aside0 (sapperlaw13_SuffixKinds.j0 kq l0 a1 a2 t369 x39_10 = some r)∧Aside0 (kq≤k)∧Aside0 (Kd.N k82 82 wc w.heap.size (fun _=>True) v371 t369)∧Aside0 (Below w.heap.size w wc))
  case first =>
   have H:=HC11.out
   clear HC11
   by_cases c13 : t370 = 0
   ·rw [if_pos c13] at H
    have c13b0 : (t370 == 0) = true:=beq_iff_eq.mpr c13
    have c13b1 : (t370 != 0) = false:=bne_eq_false_iff_eq.mpr c13
    clear c13
    (first | rw [c13b0] | rw [c13b1] | (simp only [i64_w,i32_w]; rw [c13b0]) | skip)
    have H':=Aside0.mk H
    clear H
    obtain ⟨Ao14,co14,eo14⟩:=Kd.N_slice HO372.out
    subst eo14
    go_wp2
    go_meet
    case rel=>exact ⟨_,(((t369.length : Int) == 0)),(rfl),H',⟨by first | omega | exact Nat.le_refl _⟩,⟨by (with_reducible repeat (first | apply Kd.N_alloc | apply Kd.N_drewN | apply Kd.N_drew)); exact HO372.out⟩,⟨HB.out⟩⟩
   ·rw [if_neg c13] at H
    have c13b0 : (t370 == 0) = false:=beq_eq_false_iff_ne.mpr c13
    have c13b1 : (t370 != 0) = true:=bne_iff_ne.mpr c13
    (first | rw [c13b0] | rw [c13b1] | (simp only [i64_w,i32_w]; rw [c13b0]) | skip)
    have H':=Aside0.mk H
    clear H
    go_wp2
    go_meet
    case rel=>exact ⟨_,(true),(rfl),H',⟨by first | omega | exact Nat.le_refl _⟩,⟨by (with_reducible repeat (first | apply Kd.N_alloc | apply Kd.N_drewN | apply Kd.N_drew)); exact HO372.out⟩,⟨HB.out⟩⟩
  case rest =>
   clear HC11
   try clear c1
   try clear p2
   try clear c5
   try clear c5b0
   try clear c5b1
   try clear c6
   try clear c6b0
   try clear c6b1
   try clear c6b2
   try clear c13
   try clear c13b0
   try clear c13b1
   obtain ⟨kq,x39_10,rfl,HA,HJ10,HO_7,HB⟩:=hcut
   cases kq with
   | zero=>exact absurd HA.out (by simp [sapperlaw13_SuffixKinds.j0])
   | succ kj10 =>
    have H:=HA.out
    clear HA
    simp only [sapperlaw13_SuffixKinds.j0] at H
    by_cases c15 : x39_10 = true
    ·subst c15
     have H1 : (some false) = some r:=by rw [if_pos rfl] at H; exact H
     clear H
     have H:=H1
     clear H1
     obtain rfl:=Option.some.inj H
     go_wp2
     go_ret
     exact ⟨rfl,HB.out⟩
    ·replace c15:=Bool.eq_false_iff.mpr c15
     subst c15
     have H1 : ((suffix_Index_Kth.f kj10 t369 a1).bind fun bt373=>((suffix_Index_Kth.f kj10 t369 a1).bind fun bt377=>((sapperref13_Kth.f kj10 l0 a1).bind fun bt381=>(if (bt381.2 != (bt373.2 == 0)) = true then (sapperlaw13_SuffixKinds.j1 kj10 l0 a2 t369 true) else (if bt381.2 = true then ((sapperref01_Same.f bt373.1 bt381.1).bind fun t385=>(if t385 = true then ((sapperref01_Same.f bt377.1 bt381.1).bind fun t386=>(if t386 = true then ((sapperref01_Own.f (([bt373.1,bt377.1] : List (List Int)))).bind fun t390=>(sapperlaw13_SuffixKinds.j1 kj10 l0 a2 t369 (!t390))) else (sapperlaw13_SuffixKinds.j1 kj10 l0 a2 t369 true))) else (sapperlaw13_SuffixKinds.j1 kj10 l0 a2 t369 true))) else (if bt373.2 = 132 then ((sapperref01_Same.f bt373.1 bt381.1).bind fun t391=>(if t391 = true then ((sapperref01_Same.f bt377.1 bt381.1).bind fun t392=>(if t392 = true then ((sapperref01_Own.f (([bt373.1,bt377.1] : List (List Int)))).bind fun t396=>(sapperlaw13_SuffixKinds.j1 kj10 l0 a2 t369 (!t396))) else (sapperlaw13_SuffixKinds.j1 kj10 l0 a2 t369 true))) else (sapperlaw13_SuffixKinds.j1 kj10 l0 a2 t369 true))) else (sapperlaw13_SuffixKinds.j1 kj10 l0 a2 t369 true))))))) = some r:=by rw [if_neg (show ¬ (false = true) by decide)] at H; exact H
     clear H
     have H:=H1
     clear H1
     replace H:=Option.bind_eq_some_iff.mp H
     obtain ⟨⟨t373,t374⟩,A160,H⟩:=H
     replace H : ((suffix_Index_Kth.f kj10 t369 a1).bind fun bt377=>((sapperref13_Kth.f kj10 l0 a1).bind fun bt381=>(if (bt381.2 != (t374 == 0)) = true then (sapperlaw13_SuffixKinds.j1 kj10 l0 a2 t369 true) else (if bt381.2 = true then ((sapperref01_Same.f t373 bt381.1).bind fun t385=>(if t385 = true then ((sapperref01_Same.f bt377.1 bt381.1).bind fun t386=>(if t386 = true then ((sapperref01_Own.f (([t373,bt377.1] : List (List Int)))).bind fun t390=>(sapperlaw13_SuffixKinds.j1 kj10 l0 a2 t369 (!t390))) else (sapperlaw13_SuffixKinds.j1 kj10 l0 a2 t369 true))) else (sapperlaw13_SuffixKinds.j1 kj10 l0 a2 t369 true))) else (if t374 = 132 then ((sapperref01_Same.f t373 bt381.1).bind fun t391=>(if t391 = true then ((sapperref01_Same.f bt377.1 bt381.1).bind fun t392=>(if t392 = true then ((sapperref01_Own.f (([t373,bt377.1] : List (List Int)))).bind fun t396=>(sapperlaw13_SuffixKinds.j1 kj10 l0 a2 t369 (!t396))) else (sapperlaw13_SuffixKinds.j1 kj10 l0 a2 t369 true))) else (sapperlaw13_SuffixKinds.j1 kj10 l0 a2 t369 true))) else (sapperlaw13_SuffixKinds.j1 kj10 l0 a2 t369 true)))))) = some r:=H
     have A16:=Aside0.mk A160
     clear A160
     replace H:=Option.bind_eq_some_iff.mp H
     obtain ⟨⟨t377,t378⟩,A170,H⟩:=H
     replace H : ((sapperref13_Kth.f kj10 l0 a1).bind fun bt381=>(if (bt381.2 != (t374 == 0)) = true then (sapperlaw13_SuffixKinds.j1 kj10 l0 a2 t369 true) else (if bt381.2 = true then ((sapperref01_Same.f t373 bt381.1).bind fun t385=>(if t385 = true then ((sapperref01_Same.f t377 bt381.1).bind fun t386=>(if t386 = true then ((sapperref01_Own.f (([t373,t377] : List (List Int)))).bind fun t390=>(sapperlaw13_SuffixKinds.j1 kj10 l0 a2 t369 (!t390))) else (sapperlaw13_SuffixKinds.j1 kj10 l0 a2 t369 true))) else (sapperlaw13_SuffixKinds.j1 kj10 l0 a2 t369 true))) else (if t374 = 132 then ((sapperref01_Same.f t373 bt381.1).bind fun t391=>(if t391 = true then ((sapperref01_Same.f t377 bt381.1).bind fun t392=>(if t392 = true then ((sapperref01_Own.f (([t373,t377] : List (List Int)))).bind fun t396=>(sapperlaw13_SuffixKinds.j1 kj10 l0 a2 t369 (!t396))) else (sapperlaw13_SuffixKinds.j1 kj10 l0 a2 t369 true))) else (sapperlaw13_SuffixKinds.j1 kj10 l0 a2 t369 true))) else (sapperlaw13_SuffixKinds.j1 kj10 l0 a2 t369 true))))) = some r:=H
     have A17:=Aside0.mk A170
     clear A170
     replace H:=Option.bind_eq_some_iff.mp H
     obtain ⟨⟨t381,t382⟩,A180,H⟩:=H
     replace H : (if (t382 != (t374 == 0)) = true then (sapperlaw13_SuffixKinds.j1 kj10 l0 a2 t369 true) else (if t382 = true then ((sapperref01_Same.f t373 t381).bind fun t385=>(if t385 = true then ((sapperref01_Same.f t377 t381).bind fun t386=>(if t386 = true then ((sapperref01_Own.f (([t373,t377] : List (List Int)))).bind fun t390=>(sapperlaw13_SuffixKinds.j1 kj10 l0 a2 t369 (!t390))) else (sapperlaw13_SuffixKinds.j1 kj10 l0 a2 t369 true))) else (sapperlaw13_SuffixKinds.j1 kj10 l0 a2 t369 true))) else (if t374 = 132 then ((sapperref01_Same.f t373 t381).bind fun t391=>(if t391 = true then ((sapperref01_Same.f t377 t381).bind fun t392=>(if t392 = true then ((sapperref01_Own.f (([t373,t377] : List (List Int)))).bind fun t396=>(sapperlaw13_SuffixKinds.j1 kj10 l0 a2 t369 (!t396))) else (sapperlaw13_SuffixKinds.j1 kj10 l0 a2 t369 true))) else (sapperlaw13_SuffixKinds.j1 kj10 l0 a2 t369 true))) else (sapperlaw13_SuffixKinds.j1 kj10 l0 a2 t369 true)))) = some r:=H
     have A18:=Aside0.mk A180
     clear A180
     have HC19:=Aside0.mk H
     clear H
     obtain ⟨Ao20,co20,eo20⟩:=Kd.N_slice HO_7.out
     subst eo20
     have HBq:=HB
     have HOq:=HO_7
     go_upto_region 9 with (first | (go_at_call 19; (with_reducible refine (suffix_Index_Kth.calls kj10 _ _ t369 a1 t373 t374 _ ?side1 ?side2 A16.out).mono ?_); (case side1=>exact (Kd.N_reads' HO_7.out).2.2); (case side2=>exact (Kd.N_reads' HO_7.out).2.1); rintro e w21 ⟨v375,rfl,ho0,hb⟩; have HZ1:=Aside0.mk hb; have HG1:=Aside0.mk (Kd.R_base ho0); have n0_:=Aside0.mk (Kd.N_elder' HO_7.out (Kd.R_base ho0) hb); have n1_:=Aside0.mk (Kd.R_lower ho0 (below_size HB.out)); have n2_:=Aside0.mk (below_step HB.out hb); clear HO_7; clear HB; have HO_7:=n0_; have HO376:=n1_; have HB:=n2_; clear n0_ n1_ n2_; clear A16) | (go_at_call 19; (with_reducible refine (suffix_Index_Kth.calls kj10 _ _ t369 a1 t377 t378 _ ?side1 ?side2 A17.out).mono ?_); (case side1=>exact (Kd.N_reads' HO_7.out).2.2); (case side2=>exact (Kd.N_reads' HO_7.out).2.1); rintro e w22 ⟨v379,rfl,ho0,hb⟩; have HG2:=Aside0.mk (fun k hk=>Nat.le_trans HZ1.out.size (Kd.R_base ho0 k hk)); have HZ2:=Aside0.mk (below_step (by repeat (first | (with_reducible first | exact HZ1.out | apply below_alloc | apply pw_below_drewN | apply below_drew1) | exact HZ1.out)) hb); have n0_:=Aside0.mk (Kd.N_elder' HO_7.out (Kd.R_base ho0) hb); have n1_:=Aside0.mk (Kd.R_elder' HO376.out (Kd.R_base ho0) hb); have n2_:=Aside0.mk (Kd.R_lower (Kd.R_new' ho0 (Kd.R_lt HO376.out)) (below_size HB.out)); have n3_:=Aside0.mk (below_step HB.out hb); clear HO_7; clear HO376; clear HB; have HO_7:=n0_; have HO376:=n1_; have HO380:=n2_; have HB:=n3_; clear n0_ n1_ n2_ n3_) | (go_at_call 47; (with_reducible refine (sapperref13_Kth.calls kj10 _ _ l0 a1 t381 t382 _ ?side1 ?side2 A18.out).mono ?_); (case side1=>exact (Kd.C_below HR0.out HB.out)); (case side2=>exact HC0.out); rintro e w23 ⟨v383,rfl,ho0,hb⟩; have HZ3:=Aside0.mk (below_step (by repeat (first | (with_reducible first | exact HZ2.out | apply below_alloc | apply pw_below_drewN | apply below_drew1) | exact HZ2.out)) hb); have n0_:=Aside0.mk (Kd.N_elder' HO_7.out (Kd.R_base ho0) hb); have n1_:=Aside0.mk (Kd.R_elder' HO376.out (Kd.R_base ho0) hb); have n2_:=Aside0.mk (Kd.R_elder' HO380.out (Kd.R_base ho0) hb); have n3_:=Aside0.mk (Kd.R_lower (Kd.R_new' (Kd.R_new' ho0 (Kd.R_lt HO376.out)) (Kd.R_lt HO380.out)) (below_size HB.out)); have n4_:=Aside0.mk (below_step HB.out hb); clear HO_7; clear HO376; clear HO380; clear HB; have HO_7:=n0_; have HO376:=n1_; have HO380:=n2_; have HO384:=n3_; have HB:=n4_; clear n0_ n1_ n2_ n3_ n4_))
     (try simp only [Act.put,List.setIfInBounds_toArray,List.set_cons_zero,List.set_cons_succ])
     go_cut [88] (fun v88 wc=>∃ (kq : Nat) (x88_18 : Bool),v88 = .bool x88_18∧Aside0 (sapperlaw13_SuffixKinds.j1 kq l0 a2 t369 x88_18 = some r)∧Aside0 (kq≤kj10)∧Aside0 (Kd.N k82 82 wc w.heap.size (fun _=>True) (.slice Ao20 t369.length co20) t369)∧Aside0 (Below w.heap.size w wc))
     case first =>
      have H:=HC19.out
      clear HC19
      by_cases c24 : (t382 != (t374 == 0)) = true
      ·rw [if_pos c24] at H
       have c24b0 : (t382 != (t374 == 0)) = true:=c24
       (try (have c24b1 : decide (t382 = (t374 == 0)) = false:=by simpa using c24))
       (try (have c24b2 : (t382 == (t374 == 0)) = false:=by simpa using c24))
       (try (have c24b3 : ¬ (t382 = (t374 == 0)):=by simpa using c24))
       clear c24
       (first | rw [c24b0] | rw [c24b1] | (simp only [i64_w,i32_w]; rw [c24b0]) | skip)
       have H':=Aside0.mk H
       clear H
       go_wp2
       go_meet
       case rel=>exact ⟨_,(true),(rfl),H',⟨by have:=HJ10.out; first | omega | exact Nat.le_refl _⟩,⟨by (with_reducible repeat (first | apply Kd.N_alloc | apply Kd.N_drewN | apply Kd.N_drew)); exact Kd.N_mono HO_7.out (fun _ hk=>trivial)⟩,⟨HB.out⟩⟩
      ·rw [if_neg c24] at H
       have c24b0 : (t382 != (t374 == 0)) = false:=by simpa using c24
       (try (have c24b1 : decide (t382 = (t374 == 0)) = true:=by simpa using c24))
       (try (have c24b2 : (t382 == (t374 == 0)) = true:=by simpa using c24))
       clear c24
       (first | rw [c24b0] | rw [c24b1] | (simp only [i64_w,i32_w]; rw [c24b0]) | skip)
       by_cases c25 : t382 = true
       ·subst c25
        have H1 : ((sapperref01_Same.f t373 t381).bind fun t385=>(if t385 = true then ((sapperref01_Same.f t377 t381).bind fun t386=>(if t386 = true then ((sapperref01_Own.f (([t373,t377] : List (List Int)))).bind fun t390=>(sapperlaw13_SuffixKinds.j1 kj10 l0 a2 t369 (!t390))) else (sapperlaw13_SuffixKinds.j1 kj10 l0 a2 t369 true))) else (sapperlaw13_SuffixKinds.j1 kj10 l0 a2 t369 true))) = some r:=by rw [if_pos rfl] at H; exact H
        clear H
        have H:=H1
        clear H1
        replace H:=Option.bind_eq_some_iff.mp H
        obtain ⟨t385,A260,H⟩:=H
        replace H : (if t385 = true then ((sapperref01_Same.f t377 t381).bind fun t386=>(if t386 = true then ((sapperref01_Own.f (([t373,t377] : List (List Int)))).bind fun t390=>(sapperlaw13_SuffixKinds.j1 kj10 l0 a2 t369 (!t390))) else (sapperlaw13_SuffixKinds.j1 kj10 l0 a2 t369 true))) else (sapperlaw13_SuffixKinds.j1 kj10 l0 a2 t369 true)) = some r:=H
        have A26:=Aside0.mk A260
        clear A260
        by_cases c27 : t385 = true
        ·subst c27
         have H1 : ((sapperref01_Same.f t377 t381).bind fun t386=>(if t386 = true then ((sapperref01_Own.f (([t373,t377] : List (List Int)))).bind fun t390=>(sapperlaw13_SuffixKinds.j1 kj10 l0 a2 t369 (!t390))) else (sapperlaw13_SuffixKinds.j1 kj10 l0 a2 t369 true))) = some r:=by rw [if_pos rfl] at H; exact H
         clear H
         have H:=H1
         clear H1
         replace H:=Option.bind_eq_some_iff.mp H
         obtain ⟨t386,A280,H⟩:=H
         replace H : (if t386 = true then ((sapperref01_Own.f (([t373,t377] : List (List Int)))).bind fun t390=>(sapperlaw13_SuffixKinds.j1 kj10 l0 a2 t369 (!t390))) else (sapperlaw13_SuffixKinds.j1 kj10 l0 a2 t369 true)) = some r:=H
         have A28:=Aside0.mk A280
         clear A280
         by_cases c29 : t386 = true
         ·subst c29
          have H1 : ((sapperref01_Own.f (([t373,t377] : List (List Int)))).bind fun t390=>(sapperlaw13_SuffixKinds.j1 kj10 l0 a2 t369 (!t390))) = some r:=by rw [if_pos rfl] at H; exact H
          clear H
          have H:=H1
          clear H1
          obtain ⟨y387,hy387⟩ : ∃ y_ : List (List Int),y_ = (([t373,t377] : List (List Int))):=⟨_,rfl⟩
          replace H : ((sapperref01_Own.f y387).bind fun t390=>(sapperlaw13_SuffixKinds.j1 kj10 l0 a2 t369 (!t390))) = some r:=by first | (rw [hy387]; with_reducible exact H) | (have H2_:=(Option.bind_some _ _).symm.trans H; rw [hy387]; with_reducible exact H2_) | (have H2_:=(Option.bind_some _ _).symm.trans H; with_reducible exact H2_) | with_reducible exact H | (rw [hy387]; exact H) | exact H
          have Ny387:=Aside0.mk hy387
          clear hy387
          replace H:=Option.bind_eq_some_iff.mp H
          obtain ⟨t390,A300,H⟩:=H
          replace H : (sapperlaw13_SuffixKinds.j1 kj10 l0 a2 t369 (!t390)) = some r:=H
          have A30:=Aside0.mk A300
          clear A300
          have H':=Aside0.mk H
          clear H
          obtain ⟨Ao31,co31,eo31⟩:=Kd.R_slice HO376.out
          subst eo31
          obtain ⟨Ao32,co32,eo32⟩:=Kd.R_slice HO384.out
          subst eo32
          go_wp2_with (first | (go_at_call 35; (with_reducible refine (sapperref01_Same.calls _ _ t373 _ _ t381 true _ ?side1 ?side2 ?side3 ?side4 A26.out).mono ?_); (case side1=>exact (Kd.R_reads' HO376.out).2.2); (case side2=>exact (Kd.R_reads' HO376.out).2.1); (case side3=>exact (Kd.R_reads' HO384.out).2.2); (case side4=>exact (Kd.R_reads' HO384.out).2.1); rintro e w' ⟨rfl,⟨nd,rfl⟩⟩; (try first | exact ⟨rfl,_,World.drewN_drewN _ _ _⟩ | exact ⟨rfl,_,Eq.trans (World.drewN_drewN _ _ _) (congrArg (World.drewN _) (Nat.add_assoc _ _ _))⟩); obtain ⟨Ao33,co33,eo33⟩:=Kd.R_slice HO380.out; subst eo33) | (go_at_call 35; (with_reducible refine (sapperref01_Same.calls _ _ t377 _ _ t381 true _ ?side1 ?side2 ?side3 ?side4 A28.out).mono ?_); (case side1=>exact (Kd.R_reads' HO380.out).2.2); (case side2=>exact (Kd.R_reads' HO380.out).2.1); (case side3=>exact (Kd.R_reads' HO384.out).2.2); (case side4=>exact (Kd.R_reads' HO384.out).2.1); rintro e w' ⟨rfl,⟨nd,rfl⟩⟩; (try first | exact ⟨rfl,_,World.drewN_drewN _ _ _⟩ | exact ⟨rfl,_,Eq.trans (World.drewN_drewN _ _ _) (congrArg (World.drewN _) (Nat.add_assoc _ _ _))⟩)) | (go_at_call 36; (first | refine (own_lit HZ3.out (R_raise HO376.out HG1.out) (R_raise HO380.out HG2.out) (fun _ hk=>by first | exact hk.2 | exact hk.1.2 | exact hk.1.1.2) A30.out Ny387.out).mono ?_ | refine (own_litN HZ3.out (R_raise HO376.out HG1.out) (R_raise HO380.out HG2.out) (fun _ hk=>by first | exact hk.2 | exact hk.1.2 | exact hk.1.1.2) A30.out Ny387.out _).mono ?_); rintro e w37 ⟨rfl,hb⟩; have n9_:=Aside0.mk (below_step HBq.out hb); have m9_:=Aside0.mk (Kd.N_below HOq.out hb); clear HB; have HB:=n9_; clear HO_7; have HO_7:=m9_; clear n9_ m9_ hb))
          go_meet
          case rel=>exact ⟨_,(!t390),(rfl),H',⟨by have:=HJ10.out; first | omega | exact Nat.le_refl _⟩,⟨by (with_reducible repeat (first | apply Kd.N_alloc | apply Kd.N_drewN | apply Kd.N_drew)); exact Kd.N_mono HO_7.out (fun _ hk=>trivial)⟩,⟨HB.out⟩⟩
         ·replace c29:=Bool.eq_false_iff.mpr c29
          subst c29
          have H1 : (sapperlaw13_SuffixKinds.j1 kj10 l0 a2 t369 true) = some r:=by rw [if_neg (show ¬ (false = true) by decide)] at H; exact H
          clear H
          have H:=H1
          clear H1
          have H':=Aside0.mk H
          clear H
          obtain ⟨Ao38,co38,eo38⟩:=Kd.R_slice HO376.out
          subst eo38
          obtain ⟨Ao39,co39,eo39⟩:=Kd.R_slice HO384.out
          subst eo39
          go_wp2_with (first | (go_at_call 35; (with_reducible refine (sapperref01_Same.calls _ _ t373 _ _ t381 true _ ?side1 ?side2 ?side3 ?side4 A26.out).mono ?_); (case side1=>exact (Kd.R_reads' HO376.out).2.2); (case side2=>exact (Kd.R_reads' HO376.out).2.1); (case side3=>exact (Kd.R_reads' HO384.out).2.2); (case side4=>exact (Kd.R_reads' HO384.out).2.1); rintro e w' ⟨rfl,⟨nd,rfl⟩⟩; (try first | exact ⟨rfl,_,World.drewN_drewN _ _ _⟩ | exact ⟨rfl,_,Eq.trans (World.drewN_drewN _ _ _) (congrArg (World.drewN _) (Nat.add_assoc _ _ _))⟩); obtain ⟨Ao40,co40,eo40⟩:=Kd.R_slice HO380.out; subst eo40) | (go_at_call 35; (with_reducible refine (sapperref01_Same.calls _ _ t377 _ _ t381 false _ ?side1 ?side2 ?side3 ?side4 A28.out).mono ?_); (case side1=>exact (Kd.R_reads' HO380.out).2.2); (case side2=>exact (Kd.R_reads' HO380.out).2.1); (case side3=>exact (Kd.R_reads' HO384.out).2.2); (case side4=>exact (Kd.R_reads' HO384.out).2.1); rintro e w' ⟨rfl,⟨nd,rfl⟩⟩; (try first | exact ⟨rfl,_,World.drewN_drewN _ _ _⟩ | exact ⟨rfl,_,Eq.trans (World.drewN_drewN _ _ _) (congrArg (World.drewN _) (Nat.add_assoc _ _ _))⟩)))
          go_meet
          case rel=>exact ⟨_,(true),(by first | rfl | (simp; done) | (simp [*]; done)),H',⟨by have:=HJ10.out; first | omega | exact Nat.le_refl _⟩,⟨by (with_reducible repeat (first | apply Kd.N_alloc | apply Kd.N_drewN | apply Kd.N_drew)); exact Kd.N_mono HO_7.out (fun _ hk=>trivial)⟩,⟨by repeat first|(with_reducible first|exact HB.out|apply Qg|apply Qh|apply Qi)|exact HB.out⟩⟩
        ·replace c27:=Bool.eq_false_iff.mpr c27
         subst c27
         have H1 : (sapperlaw13_SuffixKinds.j1 kj10 l0 a2 t369 true) = some r:=by rw [if_neg (show ¬ (false = true) by decide)] at H; exact H
         clear H
         have H:=H1
         clear H1
         have H':=Aside0.mk H
         clear H
         obtain ⟨Ao41,co41,eo41⟩:=Kd.R_slice HO376.out
         subst eo41
         obtain ⟨Ao42,co42,eo42⟩:=Kd.R_slice HO384.out
         subst eo42
         go_wp2_with (first | (go_at_call 35; (with_reducible refine (sapperref01_Same.calls _ _ t373 _ _ t381 false _ ?side1 ?side2 ?side3 ?side4 A26.out).mono ?_); (case side1=>exact (Kd.R_reads' HO376.out).2.2); (case side2=>exact (Kd.R_reads' HO376.out).2.1); (case side3=>exact (Kd.R_reads' HO384.out).2.2); (case side4=>exact (Kd.R_reads' HO384.out).2.1); rintro e w' ⟨rfl,⟨nd,rfl⟩⟩; (try first | exact ⟨rfl,_,World.drewN_drewN _ _ _⟩ | exact ⟨rfl,_,Eq.trans (World.drewN_drewN _ _ _) (congrArg (World.drewN _) (Nat.add_assoc _ _ _))⟩)))
         go_meet
         case rel=>exact ⟨_,(true),(by first | rfl | (simp; done) | (simp [*]; done)),H',⟨by have:=HJ10.out; first | omega | exact Nat.le_refl _⟩,⟨by (with_reducible repeat (first | apply Kd.N_alloc | apply Kd.N_drewN | apply Kd.N_drew)); exact Kd.N_mono HO_7.out (fun _ hk=>trivial)⟩,⟨by repeat first|(with_reducible first|exact HB.out|apply Qg|apply Qh|apply Qi)|exact HB.out⟩⟩
       ·replace c25:=Bool.eq_false_iff.mpr c25
        subst c25
        have H1 : (if t374 = 132 then ((sapperref01_Same.f t373 t381).bind fun t391=>(if t391 = true then ((sapperref01_Same.f t377 t381).bind fun t392=>(if t392 = true then ((sapperref01_Own.f (([t373,t377] : List (List Int)))).bind fun t396=>(sapperlaw13_SuffixKinds.j1 kj10 l0 a2 t369 (!t396))) else (sapperlaw13_SuffixKinds.j1 kj10 l0 a2 t369 true))) else (sapperlaw13_SuffixKinds.j1 kj10 l0 a2 t369 true))) else (sapperlaw13_SuffixKinds.j1 kj10 l0 a2 t369 true)) = some r:=by rw [if_neg (show ¬ (false = true) by decide)] at H; exact H
        clear H
        have H:=H1
        clear H1
        by_cases c43 : t374 = 132
        ·rw [if_pos c43] at H
         have c43b0 : (t374 == 132) = true:=beq_iff_eq.mpr c43
         have c43b1 : (t374 != 132) = false:=bne_eq_false_iff_eq.mpr c43
         clear c43
         replace H:=Option.bind_eq_some_iff.mp H
         obtain ⟨t391,A440,H⟩:=H
         replace H : (if t391 = true then ((sapperref01_Same.f t377 t381).bind fun t392=>(if t392 = true then ((sapperref01_Own.f (([t373,t377] : List (List Int)))).bind fun t396=>(sapperlaw13_SuffixKinds.j1 kj10 l0 a2 t369 (!t396))) else (sapperlaw13_SuffixKinds.j1 kj10 l0 a2 t369 true))) else (sapperlaw13_SuffixKinds.j1 kj10 l0 a2 t369 true)) = some r:=H
         have A44:=Aside0.mk A440
         clear A440
         by_cases c45 : t391 = true
         ·subst c45
          have H1 : ((sapperref01_Same.f t377 t381).bind fun t392=>(if t392 = true then ((sapperref01_Own.f (([t373,t377] : List (List Int)))).bind fun t396=>(sapperlaw13_SuffixKinds.j1 kj10 l0 a2 t369 (!t396))) else (sapperlaw13_SuffixKinds.j1 kj10 l0 a2 t369 true))) = some r:=by rw [if_pos rfl] at H; exact H
          clear H
          have H:=H1
          clear H1
          replace H:=Option.bind_eq_some_iff.mp H
          obtain ⟨t392,A460,H⟩:=H
          replace H : (if t392 = true then ((sapperref01_Own.f (([t373,t377] : List (List Int)))).bind fun t396=>(sapperlaw13_SuffixKinds.j1 kj10 l0 a2 t369 (!t396))) else (sapperlaw13_SuffixKinds.j1 kj10 l0 a2 t369 true)) = some r:=H
          have A46:=Aside0.mk A460
          clear A460
          by_cases c47 : t392 = true
          ·subst c47
           have H1 : ((sapperref01_Own.f (([t373,t377] : List (List Int)))).bind fun t396=>(sapperlaw13_SuffixKinds.j1 kj10 l0 a2 t369 (!t396))) = some r:=by rw [if_pos rfl] at H; exact H
           clear H
           have H:=H1
           clear H1
           obtain ⟨y393,hy393⟩ : ∃ y_ : List (List Int),y_ = (([t373,t377] : List (List Int))):=⟨_,rfl⟩
           replace H : ((sapperref01_Own.f y393).bind fun t396=>(sapperlaw13_SuffixKinds.j1 kj10 l0 a2 t369 (!t396))) = some r:=by first | (rw [hy393]; with_reducible exact H) | (have H2_:=(Option.bind_some _ _).symm.trans H; rw [hy393]; with_reducible exact H2_) | (have H2_:=(Option.bind_some _ _).symm.trans H; with_reducible exact H2_) | with_reducible exact H | (rw [hy393]; exact H) | exact H
           have Ny393:=Aside0.mk hy393
           clear hy393
           replace H:=Option.bind_eq_some_iff.mp H
           obtain ⟨t396,A480,H⟩:=H
           replace H : (sapperlaw13_SuffixKinds.j1 kj10 l0 a2 t369 (!t396)) = some r:=H
           have A48:=Aside0.mk A480
           clear A480
           have H':=Aside0.mk H
           clear H
           obtain ⟨Ao49,co49,eo49⟩:=Kd.R_slice HO376.out
           subst eo49
           obtain ⟨Ao50,co50,eo50⟩:=Kd.R_slice HO384.out
           subst eo50
           go_wp2_with (first | (go_at_call 35; (with_reducible refine (sapperref01_Same.calls _ _ t373 _ _ t381 true _ ?side1 ?side2 ?side3 ?side4 A44.out).mono ?_); (case side1=>exact (Kd.R_reads' HO376.out).2.2); (case side2=>exact (Kd.R_reads' HO376.out).2.1); (case side3=>exact (Kd.R_reads' HO384.out).2.2); (case side4=>exact (Kd.R_reads' HO384.out).2.1); rintro e w' ⟨rfl,⟨nd,rfl⟩⟩; (try first | exact ⟨rfl,_,World.drewN_drewN _ _ _⟩ | exact ⟨rfl,_,Eq.trans (World.drewN_drewN _ _ _) (congrArg (World.drewN _) (Nat.add_assoc _ _ _))⟩); obtain ⟨Ao51,co51,eo51⟩:=Kd.R_slice HO380.out; subst eo51) | (go_at_call 35; (with_reducible refine (sapperref01_Same.calls _ _ t377 _ _ t381 true _ ?side1 ?side2 ?side3 ?side4 A46.out).mono ?_); (case side1=>exact (Kd.R_reads' HO380.out).2.2); (case side2=>exact (Kd.R_reads' HO380.out).2.1); (case side3=>exact (Kd.R_reads' HO384.out).2.2); (case side4=>exact (Kd.R_reads' HO384.out).2.1); rintro e w' ⟨rfl,⟨nd,rfl⟩⟩; (try first | exact ⟨rfl,_,World.drewN_drewN _ _ _⟩ | exact ⟨rfl,_,Eq.trans (World.drewN_drewN _ _ _) (congrArg (World.drewN _) (Nat.add_assoc _ _ _))⟩)) | (go_at_call 36; (first | refine (own_lit HZ3.out (R_raise HO376.out HG1.out) (R_raise HO380.out HG2.out) (fun _ hk=>by first | exact hk.2 | exact hk.1.2 | exact hk.1.1.2) A48.out Ny393.out).mono ?_ | refine (own_litN HZ3.out (R_raise HO376.out HG1.out) (R_raise HO380.out HG2.out) (fun _ hk=>by first | exact hk.2 | exact hk.1.2 | exact hk.1.1.2) A48.out Ny393.out _).mono ?_); rintro e w55 ⟨rfl,hb⟩; have n9_:=Aside0.mk (below_step HBq.out hb); have m9_:=Aside0.mk (Kd.N_below HOq.out hb); clear HB; have HB:=n9_; clear HO_7; have HO_7:=m9_; clear n9_ m9_ hb))
           go_meet
           case rel=>exact ⟨_,(!t396),(rfl),H',⟨by have:=HJ10.out; first | omega | exact Nat.le_refl _⟩,⟨by (with_reducible repeat (first | apply Kd.N_alloc | apply Kd.N_drewN | apply Kd.N_drew)); exact Kd.N_mono HO_7.out (fun _ hk=>trivial)⟩,⟨HB.out⟩⟩
          ·replace c47:=Bool.eq_false_iff.mpr c47
           subst c47
           have H1 : (sapperlaw13_SuffixKinds.j1 kj10 l0 a2 t369 true) = some r:=by rw [if_neg (show ¬ (false = true) by decide)] at H; exact H
           clear H
           have H:=H1
           clear H1
           have H':=Aside0.mk H
           clear H
           obtain ⟨Ao56,co56,eo56⟩:=Kd.R_slice HO376.out
           subst eo56
           obtain ⟨Ao57,co57,eo57⟩:=Kd.R_slice HO384.out
           subst eo57
           go_wp2_with (first | (go_at_call 35; (with_reducible refine (sapperref01_Same.calls _ _ t373 _ _ t381 true _ ?side1 ?side2 ?side3 ?side4 A44.out).mono ?_); (case side1=>exact (Kd.R_reads' HO376.out).2.2); (case side2=>exact (Kd.R_reads' HO376.out).2.1); (case side3=>exact (Kd.R_reads' HO384.out).2.2); (case side4=>exact (Kd.R_reads' HO384.out).2.1); rintro e w' ⟨rfl,⟨nd,rfl⟩⟩; (try first | exact ⟨rfl,_,World.drewN_drewN _ _ _⟩ | exact ⟨rfl,_,Eq.trans (World.drewN_drewN _ _ _) (congrArg (World.drewN _) (Nat.add_assoc _ _ _))⟩); obtain ⟨Ao58,co58,eo58⟩:=Kd.R_slice HO380.out; subst eo58) | (go_at_call 35; (with_reducible refine (sapperref01_Same.calls _ _ t377 _ _ t381 false _ ?side1 ?side2 ?side3 ?side4 A46.out).mono ?_); (case side1=>exact (Kd.R_reads' HO380.out).2.2); (case side2=>exact (Kd.R_reads' HO380.out).2.1); (case side3=>exact (Kd.R_reads' HO384.out).2.2); (case side4=>exact (Kd.R_reads' HO384.out).2.1); rintro e w' ⟨rfl,⟨nd,rfl⟩⟩; (try first | exact ⟨rfl,_,World.drewN_drewN _ _ _⟩ | exact ⟨rfl,_,Eq.trans (World.drewN_drewN _ _ _) (congrArg (World.drewN _) (Nat.add_assoc _ _ _))⟩)))
           go_meet
           case rel=>exact ⟨_,(true),(by first | rfl | (simp; done) | (simp [*]; done)),H',⟨by have:=HJ10.out; first | omega | exact Nat.le_refl _⟩,⟨by (with_reducible repeat (first | apply Kd.N_alloc | apply Kd.N_drewN | apply Kd.N_drew)); exact Kd.N_mono HO_7.out (fun _ hk=>trivial)⟩,⟨by repeat first|(with_reducible first|exact HB.out|apply Qg|apply Qh|apply Qi)|exact HB.out⟩⟩
         ·replace c45:=Bool.eq_false_iff.mpr c45
          subst c45
          have H1 : (sapperlaw13_SuffixKinds.j1 kj10 l0 a2 t369 true) = some r:=by rw [if_neg (show ¬ (false = true) by decide)] at H; exact H
          clear H
          have H:=H1
          clear H1
          have H':=Aside0.mk H
          clear H
          obtain ⟨Ao59,co59,eo59⟩:=Kd.R_slice HO376.out
          subst eo59
          obtain ⟨Ao60,co60,eo60⟩:=Kd.R_slice HO384.out
          subst eo60
          go_wp2_with (first | (go_at_call 35; (with_reducible refine (sapperref01_Same.calls _ _ t373 _ _ t381 false _ ?side1 ?side2 ?side3 ?side4 A44.out).mono ?_); (case side1=>exact (Kd.R_reads' HO376.out).2.2); (case side2=>exact (Kd.R_reads' HO376.out).2.1); (case side3=>exact (Kd.R_reads' HO384.out).2.2); (case side4=>exact (Kd.R_reads' HO384.out).2.1); rintro e w' ⟨rfl,⟨nd,rfl⟩⟩; (try first | exact ⟨rfl,_,World.drewN_drewN _ _ _⟩ | exact ⟨rfl,_,Eq.trans (World.drewN_drewN _ _ _) (congrArg (World.drewN _) (Nat.add_assoc _ _ _))⟩)))
          go_meet
          case rel=>exact ⟨_,(true),(by first | rfl | (simp; done) | (simp [*]; done)),H',⟨by have:=HJ10.out; first | omega | exact Nat.le_refl _⟩,⟨by (with_reducible repeat (first | apply Kd.N_alloc | apply Kd.N_drewN | apply Kd.N_drew)); exact Kd.N_mono HO_7.out (fun _ hk=>trivial)⟩,⟨by repeat first|(with_reducible first|exact HB.out|apply Qg|apply Qh|apply Qi)|exact HB.out⟩⟩
        ·rw [if_neg c43] at H
         have c43b0 : (t374 == 132) = false:=beq_eq_false_iff_ne.mpr c43
         have c43b1 : (t374 != 132) = true:=bne_iff_ne.mpr c43
         have H':=Aside0.mk H
         clear H
         go_wp2
         go_meet
         case rel=>exact ⟨_,(true),(rfl),H',⟨by have:=HJ10.out; first | omega | exact Nat.le_refl _⟩,⟨by (with_reducible repeat (first | apply Kd.N_alloc | apply Kd.N_drewN | apply Kd.N_drew)); exact Kd.N_mono HO_7.out (fun _ hk=>trivial)⟩,⟨HB.out⟩⟩
     case rest =>
      clear HC19
      try clear c1
      try clear c2
      try clear p2
      try clear c4
      try clear c5
      try clear c5b0
      try clear c5b1
      try clear c6
      try clear c6b0
      try clear c6b1
      try clear c6b2
      try clear c13
      try clear c13b0
      try clear c13b1
      try clear c15
      try clear c24
      try clear c24b0
      try clear c24b1
      try clear c24b2
      try clear c25
      try clear c27
      try clear c29
      try clear c43
      try clear c43b0
      try clear c43b1
      try clear c45
      try clear c47
      try clear p2
      obtain ⟨kq,x88_18,rfl,HA,HJ18,HO_7,HB⟩:=hcut
      cases kq with
      | zero=>exact absurd HA.out (by simp [sapperlaw13_SuffixKinds.j1])
      | succ kj18 =>
       have H:=HA.out
       clear HA
       simp only [sapperlaw13_SuffixKinds.j1] at H
       by_cases c61 : x88_18 = true
       ·subst c61
        have H1 : (some false) = some r:=by rw [if_pos rfl] at H; exact H
        clear H
        have H:=H1
        clear H1
        obtain rfl:=Option.some.inj H
        go_wp2
        go_ret
        exact ⟨rfl,HB.out⟩
       ·replace c61:=Bool.eq_false_iff.mpr c61
        subst c61
        have H1 : ((suffix_Index_Repeats.f t369 a2).bind fun bt397=>(if a2 < 1 then (if (bt397.1.length : Int) = 0 then (if bt397.2 = 1 then ((sapperlaw13_lives.f kj18).bind fun t401=>(some t401)) else (some false)) else (some false)) else ((sapperref13_Repeats.f kj18 l0 a2).bind fun t402=>(if bt397.2 = 0 then (sapperlaw13_SuffixKinds.j2 kj18 bt397.1 t402 ((bt397.1.length : Int) != (t402.length : Int))) else (sapperlaw13_SuffixKinds.j2 kj18 bt397.1 t402 true))))) = some r:=by rw [if_neg (show ¬ (false = true) by decide)] at H; exact H
        clear H
        have H:=H1
        clear H1
        replace H:=Option.bind_eq_some_iff.mp H
        obtain ⟨⟨t397,t398⟩,A620,H⟩:=H
        replace H : (if a2 < 1 then (if (t397.length : Int) = 0 then (if t398 = 1 then ((sapperlaw13_lives.f kj18).bind fun t401=>(some t401)) else (some false)) else (some false)) else ((sapperref13_Repeats.f kj18 l0 a2).bind fun t402=>(if t398 = 0 then (sapperlaw13_SuffixKinds.j2 kj18 t397 t402 ((t397.length : Int) != (t402.length : Int))) else (sapperlaw13_SuffixKinds.j2 kj18 t397 t402 true)))) = some r:=H
        have A62:=Aside0.mk A620
        clear A620
        by_cases c63 : a2 < 1
        ·rw [if_pos c63] at H
         have c63b0 : decide (a2 < 1) = true:=decide_eq_true c63
         clear c63
         by_cases c64 : (t397.length : Int) = 0
         ·rw [if_pos c64] at H
          have c64b0 : ((t397.length : Int) == 0) = true:=beq_iff_eq.mpr c64
          have c64b1 : ((t397.length : Int) != 0) = false:=bne_eq_false_iff_eq.mpr c64
          clear c64
          by_cases c65 : t398 = 1
          ·rw [if_pos c65] at H
           have c65b0 : (t398 == 1) = true:=beq_iff_eq.mpr c65
           have c65b1 : (t398 != 1) = false:=bne_eq_false_iff_eq.mpr c65
           clear c65
           replace H:=Option.bind_eq_some_iff.mp H
           obtain ⟨t401,A660,H⟩:=H
           replace H : (some t401) = some r:=H
           have A66:=Aside0.mk A660
           clear A660
           obtain rfl:=Option.some.inj H
           go_wp2_with (first | (go_at_call 48; (with_reducible refine (suffix_Index_Repeats.calls _ _ t369 a2 t397 t398 _ ?side1 ?side2 A62.out).mono ?_); (case side1=>exact (Kd.N_reads' HO_7.out).2.2); (case side2=>exact (Kd.N_reads' HO_7.out).2.1); rintro e w67 ⟨v399,rfl,ho0,hb⟩; have n0_:=Aside0.mk (Kd.N_elder' HO_7.out (Kd.R_base ho0) hb); have n1_:=Aside0.mk (Kd.R_lower ho0 (below_size HB.out)); have n2_:=Aside0.mk (below_step HB.out hb); clear HO_7; clear HB; have HO_7:=n0_; have HO400:=n1_; have HB:=n2_; clear n0_ n1_ n2_; obtain ⟨Ao68,co68,eo68⟩:=Kd.R_slice HO400.out; subst eo68) | (go_at_call 15; (with_reducible refine (sapperlaw13_lives.calls kj18  t401 _ A66.out).mono ?_); rintro e w69 ⟨rfl,hb⟩; have n0_:=Aside0.mk (Kd.N_below HO_7.out hb); have n1_:=Aside0.mk (Kd.R_below HO400.out hb); have n2_:=Aside0.mk (below_step HB.out hb); clear HO_7; clear HO400; clear HB; have HO_7:=n0_; have HO400:=n1_; have HB:=n2_; clear n0_ n1_ n2_))
           go_ret
           exact ⟨rfl,HB.out⟩
          ·rw [if_neg c65] at H
           have c65b0 : (t398 == 1) = false:=beq_eq_false_iff_ne.mpr c65
           have c65b1 : (t398 != 1) = true:=bne_iff_ne.mpr c65
           obtain rfl:=Option.some.inj H
           go_wp2_with (first | (go_at_call 48; (with_reducible refine (suffix_Index_Repeats.calls _ _ t369 a2 t397 t398 _ ?side1 ?side2 A62.out).mono ?_); (case side1=>exact (Kd.N_reads' HO_7.out).2.2); (case side2=>exact (Kd.N_reads' HO_7.out).2.1); rintro e w70 ⟨v399,rfl,ho0,hb⟩; have n0_:=Aside0.mk (Kd.N_elder' HO_7.out (Kd.R_base ho0) hb); have n1_:=Aside0.mk (Kd.R_lower ho0 (below_size HB.out)); have n2_:=Aside0.mk (below_step HB.out hb); clear HO_7; clear HB; have HO_7:=n0_; have HO400:=n1_; have HB:=n2_; clear n0_ n1_ n2_; obtain ⟨Ao71,co71,eo71⟩:=Kd.R_slice HO400.out; subst eo71))
           go_ret
           exact ⟨rfl,HB.out⟩
         ·rw [if_neg c64] at H
          have c64b0 : ((t397.length : Int) == 0) = false:=beq_eq_false_iff_ne.mpr c64
          have c64b1 : ((t397.length : Int) != 0) = true:=bne_iff_ne.mpr c64
          have c64b2 : ¬ (t397 = []):=fun h_=>c64 (by rw [h_]; rfl)
          obtain rfl:=Option.some.inj H
          go_wp2_with (first | (go_at_call 48; (with_reducible refine (suffix_Index_Repeats.calls _ _ t369 a2 t397 t398 _ ?side1 ?side2 A62.out).mono ?_); (case side1=>exact (Kd.N_reads' HO_7.out).2.2); (case side2=>exact (Kd.N_reads' HO_7.out).2.1); rintro e w72 ⟨v399,rfl,ho0,hb⟩; have n0_:=Aside0.mk (Kd.N_elder' HO_7.out (Kd.R_base ho0) hb); have n1_:=Aside0.mk (Kd.R_lower ho0 (below_size HB.out)); have n2_:=Aside0.mk (below_step HB.out hb); clear HO_7; clear HB; have HO_7:=n0_; have HO400:=n1_; have HB:=n2_; clear n0_ n1_ n2_; obtain ⟨Ao73,co73,eo73⟩:=Kd.R_slice HO400.out; subst eo73))
          go_ret
          exact ⟨rfl,HB.out⟩
        ·rw [if_neg c63] at H
         have c63b0 : decide (a2 < 1) = false:=decide_eq_false c63
         clear c63
         replace H:=Option.bind_eq_some_iff.mp H
         obtain ⟨t402,A740,H⟩:=H
         replace H : (if t398 = 0 then (sapperlaw13_SuffixKinds.j2 kj18 t397 t402 ((t397.length : Int) != (t402.length : Int))) else (sapperlaw13_SuffixKinds.j2 kj18 t397 t402 true)) = some r:=H
         have A74:=Aside0.mk A740
         clear A740
         have HC75:=Aside0.mk H
         clear H
         go_upto_region 15 with (first | (go_at_call 48; (with_reducible refine (suffix_Index_Repeats.calls _ _ t369 a2 t397 t398 _ ?side1 ?side2 A62.out).mono ?_); (case side1=>exact (Kd.N_reads' HO_7.out).2.2); (case side2=>exact (Kd.N_reads' HO_7.out).2.1); rintro e w76 ⟨v399,rfl,ho0,hb⟩; have n0_:=Aside0.mk (Kd.N_elder' HO_7.out (Kd.R_base ho0) hb); have n1_:=Aside0.mk (Kd.R_lower ho0 (below_size HB.out)); have n2_:=Aside0.mk (below_step HB.out hb); clear HO_7; clear HB; have HO_7:=n0_; have HO400:=n1_; have HB:=n2_; clear n0_ n1_ n2_) | (go_at_call 49; (with_reducible refine (sapperref13_Repeats.calls kj18 _ _ l0 a2 t402 _ ?side1 ?side2 A74.out).mono ?_); (case side1=>exact (Kd.C_below HR0.out HB.out)); (case side2=>exact HC0.out); rintro e w77 ⟨v403,rfl,ho0,hb⟩; have n0_:=Aside0.mk (Kd.N_elder' HO_7.out (Kd.R_base ho0) hb); have n1_:=Aside0.mk (Kd.R_below HO400.out hb); have n2_:=Aside0.mk (Kd.R_lower ho0 (below_size HB.out)); have n3_:=Aside0.mk (below_step HB.out hb); clear HO_7; clear HO400; clear HB; have HO_7:=n0_; have HO400:=n1_; have HO404:=n2_; have HB:=n3_; clear n0_ n1_ n2_ n3_))
         (try simp only [Act.put,List.setIfInBounds_toArray,List.set_cons_zero,List.set_cons_succ])
         go_cut [118] (fun v118 wc=>∃ (kq : Nat) (x118_74 : Bool),v118 = .bool x118_74∧Aside0 (sapperlaw13_SuffixKinds.j2 kq t397 t402 x118_74 = some r)∧Aside0 (kq≤kj18)∧Aside0 (Kd.R k80 80 wc w.heap.size (fun _=>True) v399 t397)∧Aside0 (Kd.R k79 79 wc w.heap.size (fun _=>True) v403 t402)∧Aside0 (Below w.heap.size w wc))
         case first =>
          have H:=HC75.out
          clear HC75
          by_cases c78 : t398 = 0
          ·rw [if_pos c78] at H
           have c78b0 : (t398 == 0) = true:=beq_iff_eq.mpr c78
           have c78b1 : (t398 != 0) = false:=bne_eq_false_iff_eq.mpr c78
           clear c78
           (first | rw [c78b0] | rw [c78b1] | (simp only [i64_w,i32_w]; rw [c78b0]) | skip)
           have H':=Aside0.mk H
           clear H
           obtain ⟨Ao79,co79,eo79⟩:=Kd.R_slice HO400.out
           subst eo79
           obtain ⟨Ao80,co80,eo80⟩:=Kd.R_slice HO404.out
           subst eo80
           go_wp2
           go_meet
           case rel=>exact ⟨_,(((t397.length : Int) != (t402.length : Int))),(rfl),H',⟨by have:=HJ10.out; have:=HJ18.out; first | omega | exact Nat.le_refl _⟩,⟨by (with_reducible repeat first|apply Qa|apply Qb|apply Qc); exact HO400.out⟩,⟨by (with_reducible repeat first|apply Qa|apply Qb|apply Qc); exact HO404.out⟩,⟨HB.out⟩⟩
          ·rw [if_neg c78] at H
           have c78b0 : (t398 == 0) = false:=beq_eq_false_iff_ne.mpr c78
           have c78b1 : (t398 != 0) = true:=bne_iff_ne.mpr c78
           (first | rw [c78b0] | rw [c78b1] | (simp only [i64_w,i32_w]; rw [c78b0]) | skip)
           have H':=Aside0.mk H
           clear H
           go_wp2
           go_meet
           case rel=>exact ⟨_,(true),(rfl),H',⟨by have:=HJ10.out; have:=HJ18.out; first | omega | exact Nat.le_refl _⟩,⟨by (with_reducible repeat first|apply Qa|apply Qb|apply Qc); exact HO400.out⟩,⟨by (with_reducible repeat first|apply Qa|apply Qb|apply Qc); exact HO404.out⟩,⟨HB.out⟩⟩
         case rest =>
          clear HC75
          try clear c1
          try clear c2
          try clear p2
          try clear c4
          try clear c5
          try clear c5b0
          try clear c5b1
          try clear c6
          try clear c6b0
          try clear c6b1
          try clear c6b2
          try clear c7
          try clear c13
          try clear c13b0
          try clear c13b1
          try clear c15
          try clear c24
          try clear c24b0
          try clear c24b1
          try clear c24b2
          try clear c25
          try clear c27
          try clear c29
          try clear c43
          try clear c43b0
          try clear c43b1
          try clear c45
          try clear c47
          try clear c61
          try clear c63
          try clear c63b0
          try clear c64
          try clear c64b0
          try clear c64b1
          try clear c64b2
          try clear c65
          try clear c65b0
          try clear c65b1
          try clear c78
          try clear c78b0
          try clear c78b1
          try clear p2
          obtain ⟨kq,x118_74,rfl,HA,HJ74,HO_15,HO_17,HB⟩:=hcut
          cases kq with
          | zero=>exact absurd HA.out (by simp [sapperlaw13_SuffixKinds.j2])
          | succ kj74 =>
           have H:=HA.out
           clear HA
           simp only [sapperlaw13_SuffixKinds.j2] at H
           by_cases c81 : x118_74 = true
           ·subst c81
            have H1 : (some false) = some r:=by rw [if_pos rfl] at H; exact H
            clear H
            have H:=H1
            clear H1
            obtain rfl:=Option.some.inj H
            go_wp2
            go_ret
            exact ⟨rfl,HB.out⟩
           ·replace c81:=Bool.eq_false_iff.mpr c81
            subst c81
            have H1 : (sapperlaw13_SuffixKinds.l0 kj74 t397 t402 (t402.length : Int) 0) = some r:=by rw [if_neg (show ¬ (false = true) by decide)] at H; exact H
            clear H
            have H:=H1
            clear H1
            have H':=Aside0.mk H
            clear H
            obtain ⟨Ao82,co82,eo82⟩:=Kd.R_slice HO_17.out
            subst eo82
            go_wp2
            go_loopg [121] kj74 (fun kq v121 w'=>∃ (x121_4 : Int),v121 = .int .i64 x121_4∧Aside0 (sapperlaw13_SuffixKinds.l0 kq t397 t402 (t402.length : Int) x121_4 = some r)∧Aside0 (kq≤kj74)∧Aside0 (Kd.R k80 80 w' w.heap.size (fun _=>True) v399 t397)∧Aside0 (Kd.R k79 79 w' w.heap.size (fun _=>True) (.slice Ao82 t402.length co82) t402)∧Aside0 (Below w.heap.size w w'))
            case atStart=>exact ⟨(0),(rfl),H',⟨Nat.le_refl _⟩,⟨by (with_reducible repeat first|apply Qa|apply Qb|apply Qc); exact HO_15.out⟩,⟨by (with_reducible repeat first|apply Qa|apply Qb|apply Qc); exact HO_17.out⟩,⟨HB.out⟩⟩
            case round =>
             clear H'
             try clear c1
             try clear c2
             try clear p2
             try clear c4
             try clear c5
             try clear c5b0
             try clear c5b1
             try clear c6
             try clear c6b0
             try clear c6b1
             try clear c6b2
             try clear c7
             try clear c8
             try clear c13
             try clear c13b0
             try clear c13b1
             try clear c15
             try clear c24
             try clear c24b0
             try clear c24b1
             try clear c24b2
             try clear c25
             try clear c27
             try clear c29
             try clear c43
             try clear c43b0
             try clear c43b1
             try clear c45
             try clear c47
             try clear c61
             try clear c63
             try clear c63b0
             try clear c64
             try clear c64b0
             try clear c64b1
             try clear c64b2
             try clear c65
             try clear c65b0
             try clear c65b1
             try clear c78
             try clear c78b0
             try clear c78b1
             try clear c81
             try clear p2
             obtain ⟨x121_4,rfl,HA,HK4,HO_15,HO_17,HB⟩:=hrel
             cases gk with
             | zero=>exact absurd HA.out (by simp [sapperlaw13_SuffixKinds.l0])
             | succ k4 =>
              have H:=HA.out
              clear HA
              simp only [sapperlaw13_SuffixKinds.l0] at H
              by_cases c83 : x121_4 < (t402.length : Int)
              ·rw [if_pos c83] at H
               have c83b0 : decide (x121_4 < (t402.length : Int)) = true:=decide_eq_true c83
               clear c83
               by_cases c84 : 0≤x121_4
               ·rw [if_pos c84] at H
                have c84b0 : decide (0≤x121_4) = true:=decide_eq_true c84
                clear c84
                by_cases c85 : x121_4 < (t402.length : Int)
                ·rw [if_pos c85] at H
                 have c85b0 : decide (x121_4 < (t402.length : Int)) = true:=decide_eq_true c85
                 clear c85
                 by_cases c86 : x121_4 < (t397.length : Int)
                 ·rw [if_pos c86] at H
                  have c86b0 : decide (x121_4 < (t397.length : Int)) = true:=decide_eq_true c86
                  clear c86
                  by_cases c87 : (!(((rd_T80 t397 x121_4).f0) == ((rd_T79 t402 x121_4).f0)) || (!(((rd_T80 t397 x121_4).f1) == ((rd_T79 t402 x121_4).f1)) || (!(((rd_T80 t397 x121_4).f2) == ((rd_T79 t402 x121_4).f2))))) = true
                  ·rw [if_pos c87] at H
                   have c87b0 : (!(((rd_T80 t397 x121_4).f0) == ((rd_T79 t402 x121_4).f0)) || (!(((rd_T80 t397 x121_4).f1) == ((rd_T79 t402 x121_4).f1)) || (!(((rd_T80 t397 x121_4).f2) == ((rd_T79 t402 x121_4).f2))))) = true:=c87
                   clear c87
                   obtain rfl:=Option.some.inj H
                   have p405 : 0≤(x121_4 : Int):=Qt
                   have q405 : x121_4 < (t402.length : Int):=Qt
                   obtain ⟨ad405,e405,hx405_0,hx405_1,hx405_2⟩:=at_T79 (Kd.R_reads' HO_17.out).2.2 x121_4 p405 q405
                   cases e405
                   replace p405:=eq_true p405
                   replace q405:=eq_true q405
                   go_wp2_with (first | (refine gate_dst (N:=19) rfl ?_; (try (refine gate_guard (rfl) ?_; dsimp only)); refine box_event ?hg (N:=19) ?hd (cs:=#[.int .i64 0,.int .i64 0,.int .i64 0]) (t:=79) ?hr ?_; (case hd=>rfl); (case hg=>rfl); (case hr=>first | (go_simp; done) | (go_simp; rfl)); intro gb406 hg w88 hbox hb; have n0_:=Aside0.mk (Kd.R_below HO_15.out hb); have n1_:=Aside0.mk (Kd.R_below (Kd.R_elderB HO_17.out gb406 (Nat.le_of_eq hg.symm)) hb); have n2_:=Aside0.mk (below_step HB.out hb); have n3_:=Aside0.mk (hbox); have n4_:=Aside0.mk ((by rw [hg]; exact (below_size HB.out) : w.heap.size≤gb406)); have n5_:=Aside0.mk ((by rw [hg]; exact (below_size HB.out) : w.heap.size≤gb406)); clear HO_15; clear HO_17; clear HB; have HO_15:=n0_; have HO_17:=n1_; have HB:=n2_; have BK406:=n3_; have GW406:=n4_; have GE406:=n5_; clear n0_ n1_ n2_ n3_ n4_ n5_; clear hb hbox hg; have hcz89_0 : w88.cell? ⟨gb406,0,none⟩ = some (.int .i64 0):=(blk_cell BK406.out 0).trans rfl; have hcz89_1 : w88.cell? ⟨gb406,1,none⟩ = some (.int .i64 0):=(blk_cell BK406.out 1).trans rfl; have hcz89_2 : w88.cell? ⟨gb406,2,none⟩ = some (.int .i64 0):=(blk_cell BK406.out 2).trans rfl; have hfz89_0:=blk_frozen BK406.out 0; have hfz89_1:=blk_frozen BK406.out 1; have hfz89_2:=blk_frozen BK406.out 2; obtain ⟨Ao90,co90,eo90⟩:=Kd.R_slice HO_15.out; subst eo90; have p407 : 0≤(x121_4 : Int):=Qt; have q407 : x121_4 < (t397.length : Int):=Qt; obtain ⟨ad407,e407,hx407_0,hx407_1,hx407_2⟩:=at_T80 (Kd.R_reads' HO_15.out).2.2 x121_4 p407 q407; cases e407; have hn407_0 : ad407.block ≠ gb406:=Kd.own_blk (Kd.R_ne HO_15.out BK406.out (by decide)); have hn407_1 : ad407.block ≠ gb406:=Kd.own_blk (Kd.R_ne HO_15.out BK406.out (by decide)); have hn407_2 : ad407.block ≠ gb406:=Kd.own_blk (Kd.R_ne HO_15.out BK406.out (by decide)); replace hx407_0:=(cell_far (p:=⟨gb406,0,none⟩) (by first | (rw [add_block]; exact hn407_0) | (show (Addr.add _ _).block ≠ _; rw [add_block]; exact hn407_0) | exact hn407_0) (.int .i64 ((rd_T79 t402 x121_4).f0))).trans hx407_0; replace hx407_1:=(cell_far (p:=⟨gb406,0,none⟩) (by first | (rw [add_block]; exact hn407_0) | (show (Addr.add _ _).block ≠ _; rw [add_block]; exact hn407_0) | exact hn407_0) (.int .i64 ((rd_T79 t402 x121_4).f0))).trans hx407_1; replace hx407_2:=(cell_far (p:=⟨gb406,0,none⟩) (by first | (rw [add_block]; exact hn407_0) | (show (Addr.add _ _).block ≠ _; rw [add_block]; exact hn407_0) | exact hn407_0) (.int .i64 ((rd_T79 t402 x121_4).f0))).trans hx407_2; replace hx407_0:=(cell_far (p:=⟨gb406,1,none⟩) (by first | (rw [add_block]; exact hn407_1) | (show (Addr.add _ _).block ≠ _; rw [add_block]; exact hn407_1) | exact hn407_1) (.int .i64 ((rd_T79 t402 x121_4).f1))).trans hx407_0; replace hx407_1:=(cell_far (p:=⟨gb406,1,none⟩) (by first | (rw [add_block]; exact hn407_1) | (show (Addr.add _ _).block ≠ _; rw [add_block]; exact hn407_1) | exact hn407_1) (.int .i64 ((rd_T79 t402 x121_4).f1))).trans hx407_1; replace hx407_2:=(cell_far (p:=⟨gb406,1,none⟩) (by first | (rw [add_block]; exact hn407_1) | (show (Addr.add _ _).block ≠ _; rw [add_block]; exact hn407_1) | exact hn407_1) (.int .i64 ((rd_T79 t402 x121_4).f1))).trans hx407_2; replace hx407_0:=(cell_far (p:=⟨gb406,2,none⟩) (by first | (rw [add_block]; exact hn407_2) | (show (Addr.add _ _).block ≠ _; rw [add_block]; exact hn407_2) | exact hn407_2) (.int .i64 ((rd_T79 t402 x121_4).f2))).trans hx407_0; replace hx407_1:=(cell_far (p:=⟨gb406,2,none⟩) (by first | (rw [add_block]; exact hn407_2) | (show (Addr.add _ _).block ≠ _; rw [add_block]; exact hn407_2) | exact hn407_2) (.int .i64 ((rd_T79 t402 x121_4).f2))).trans hx407_1; replace hx407_2:=(cell_far (p:=⟨gb406,2,none⟩) (by first | (rw [add_block]; exact hn407_2) | (show (Addr.add _ _).block ≠ _; rw [add_block]; exact hn407_2) | exact hn407_2) (.int .i64 ((rd_T79 t402 x121_4).f2))).trans hx407_2; (try have hy407_0:=fun (n_ : Nat)=>(show (((((w88.drewN n_).setCell ⟨gb406,0,none⟩ (.int .i64 ((rd_T79 t402 x121_4).f0))).setCell ⟨gb406,1,none⟩ (.int .i64 ((rd_T79 t402 x121_4).f1))).setCell ⟨gb406,2,none⟩ (.int .i64 ((rd_T79 t402 x121_4).f2)))).cell? _ = some _ from hx407_0)); (try have hy407_1:=fun (n_ : Nat)=>(show (((((w88.drewN n_).setCell ⟨gb406,0,none⟩ (.int .i64 ((rd_T79 t402 x121_4).f0))).setCell ⟨gb406,1,none⟩ (.int .i64 ((rd_T79 t402 x121_4).f1))).setCell ⟨gb406,2,none⟩ (.int .i64 ((rd_T79 t402 x121_4).f2)))).cell? _ = some _ from hx407_1)); (try have hy407_2:=fun (n_ : Nat)=>(show (((((w88.drewN n_).setCell ⟨gb406,0,none⟩ (.int .i64 ((rd_T79 t402 x121_4).f0))).setCell ⟨gb406,1,none⟩ (.int .i64 ((rd_T79 t402 x121_4).f1))).setCell ⟨gb406,2,none⟩ (.int .i64 ((rd_T79 t402 x121_4).f2)))).cell? _ = some _ from hx407_2)); clear hn407_0; clear hn407_1; clear hn407_2; replace p407:=eq_true p407; replace q407:=eq_true q407))
                   repeat (go_quiet (first | (refine gate_dst (N:=19) rfl ?_; (try (refine gate_guard (rfl) ?_; dsimp only)); refine box_event ?hg (N:=19) ?hd (cs:=#[.int .i64 0,.int .i64 0,.int .i64 0]) (t:=79) ?hr ?_; (case hd=>rfl); (case hg=>rfl); (case hr=>first | (go_simp; done) | (go_simp; rfl)); intro gb406 hg w88 hbox hb; have n0_:=Aside0.mk (Kd.R_below HO_15.out hb); have n1_:=Aside0.mk (Kd.R_below (Kd.R_elderB HO_17.out gb406 (Nat.le_of_eq hg.symm)) hb); have n2_:=Aside0.mk (below_step HB.out hb); have n3_:=Aside0.mk (hbox); have n4_:=Aside0.mk ((by rw [hg]; exact (below_size HB.out) : w.heap.size≤gb406)); have n5_:=Aside0.mk ((by rw [hg]; exact (below_size HB.out) : w.heap.size≤gb406)); clear HO_15; clear HO_17; clear HB; have HO_15:=n0_; have HO_17:=n1_; have HB:=n2_; have BK406:=n3_; have GW406:=n4_; have GE406:=n5_; clear n0_ n1_ n2_ n3_ n4_ n5_; clear hb hbox hg; have hcz89_0 : w88.cell? ⟨gb406,0,none⟩ = some (.int .i64 0):=(blk_cell BK406.out 0).trans rfl; have hcz89_1 : w88.cell? ⟨gb406,1,none⟩ = some (.int .i64 0):=(blk_cell BK406.out 1).trans rfl; have hcz89_2 : w88.cell? ⟨gb406,2,none⟩ = some (.int .i64 0):=(blk_cell BK406.out 2).trans rfl; have hfz89_0:=blk_frozen BK406.out 0; have hfz89_1:=blk_frozen BK406.out 1; have hfz89_2:=blk_frozen BK406.out 2; obtain ⟨Ao90,co90,eo90⟩:=Kd.R_slice HO_15.out; subst eo90; have p407 : 0≤(x121_4 : Int):=Qt; have q407 : x121_4 < (t397.length : Int):=Qt; obtain ⟨ad407,e407,hx407_0,hx407_1,hx407_2⟩:=at_T80 (Kd.R_reads' HO_15.out).2.2 x121_4 p407 q407; cases e407; have hn407_0 : ad407.block ≠ gb406:=Kd.own_blk (Kd.R_ne HO_15.out BK406.out (by decide)); have hn407_1 : ad407.block ≠ gb406:=Kd.own_blk (Kd.R_ne HO_15.out BK406.out (by decide)); have hn407_2 : ad407.block ≠ gb406:=Kd.own_blk (Kd.R_ne HO_15.out BK406.out (by decide)); replace hx407_0:=(cell_far (p:=⟨gb406,0,none⟩) (by first | (rw [add_block]; exact hn407_0) | (show (Addr.add _ _).block ≠ _; rw [add_block]; exact hn407_0) | exact hn407_0) (.int .i64 ((rd_T79 t402 x121_4).f0))).trans hx407_0; replace hx407_1:=(cell_far (p:=⟨gb406,0,none⟩) (by first | (rw [add_block]; exact hn407_0) | (show (Addr.add _ _).block ≠ _; rw [add_block]; exact hn407_0) | exact hn407_0) (.int .i64 ((rd_T79 t402 x121_4).f0))).trans hx407_1; replace hx407_2:=(cell_far (p:=⟨gb406,0,none⟩) (by first | (rw [add_block]; exact hn407_0) | (show (Addr.add _ _).block ≠ _; rw [add_block]; exact hn407_0) | exact hn407_0) (.int .i64 ((rd_T79 t402 x121_4).f0))).trans hx407_2; replace hx407_0:=(cell_far (p:=⟨gb406,1,none⟩) (by first | (rw [add_block]; exact hn407_1) | (show (Addr.add _ _).block ≠ _; rw [add_block]; exact hn407_1) | exact hn407_1) (.int .i64 ((rd_T79 t402 x121_4).f1))).trans hx407_0; replace hx407_1:=(cell_far (p:=⟨gb406,1,none⟩) (by first | (rw [add_block]; exact hn407_1) | (show (Addr.add _ _).block ≠ _; rw [add_block]; exact hn407_1) | exact hn407_1) (.int .i64 ((rd_T79 t402 x121_4).f1))).trans hx407_1; replace hx407_2:=(cell_far (p:=⟨gb406,1,none⟩) (by first | (rw [add_block]; exact hn407_1) | (show (Addr.add _ _).block ≠ _; rw [add_block]; exact hn407_1) | exact hn407_1) (.int .i64 ((rd_T79 t402 x121_4).f1))).trans hx407_2; replace hx407_0:=(cell_far (p:=⟨gb406,2,none⟩) (by first | (rw [add_block]; exact hn407_2) | (show (Addr.add _ _).block ≠ _; rw [add_block]; exact hn407_2) | exact hn407_2) (.int .i64 ((rd_T79 t402 x121_4).f2))).trans hx407_0; replace hx407_1:=(cell_far (p:=⟨gb406,2,none⟩) (by first | (rw [add_block]; exact hn407_2) | (show (Addr.add _ _).block ≠ _; rw [add_block]; exact hn407_2) | exact hn407_2) (.int .i64 ((rd_T79 t402 x121_4).f2))).trans hx407_1; replace hx407_2:=(cell_far (p:=⟨gb406,2,none⟩) (by first | (rw [add_block]; exact hn407_2) | (show (Addr.add _ _).block ≠ _; rw [add_block]; exact hn407_2) | exact hn407_2) (.int .i64 ((rd_T79 t402 x121_4).f2))).trans hx407_2; (try have hy407_0:=fun (n_ : Nat)=>(show (((((w88.drewN n_).setCell ⟨gb406,0,none⟩ (.int .i64 ((rd_T79 t402 x121_4).f0))).setCell ⟨gb406,1,none⟩ (.int .i64 ((rd_T79 t402 x121_4).f1))).setCell ⟨gb406,2,none⟩ (.int .i64 ((rd_T79 t402 x121_4).f2)))).cell? _ = some _ from hx407_0)); (try have hy407_1:=fun (n_ : Nat)=>(show (((((w88.drewN n_).setCell ⟨gb406,0,none⟩ (.int .i64 ((rd_T79 t402 x121_4).f0))).setCell ⟨gb406,1,none⟩ (.int .i64 ((rd_T79 t402 x121_4).f1))).setCell ⟨gb406,2,none⟩ (.int .i64 ((rd_T79 t402 x121_4).f2)))).cell? _ = some _ from hx407_1)); (try have hy407_2:=fun (n_ : Nat)=>(show (((((w88.drewN n_).setCell ⟨gb406,0,none⟩ (.int .i64 ((rd_T79 t402 x121_4).f0))).setCell ⟨gb406,1,none⟩ (.int .i64 ((rd_T79 t402 x121_4).f1))).setCell ⟨gb406,2,none⟩ (.int .i64 ((rd_T79 t402 x121_4).f2)))).cell? _ = some _ from hx407_2)); clear hn407_0; clear hn407_1; clear hn407_2; replace p407:=eq_true p407; replace q407:=eq_true q407)); try go_wp2_with (first | (refine gate_dst (N:=19) rfl ?_; (try (refine gate_guard (rfl) ?_; dsimp only)); refine box_event ?hg (N:=19) ?hd (cs:=#[.int .i64 0,.int .i64 0,.int .i64 0]) (t:=79) ?hr ?_; (case hd=>rfl); (case hg=>rfl); (case hr=>first | (go_simp; done) | (go_simp; rfl)); intro gb406 hg w88 hbox hb; have n0_:=Aside0.mk (Kd.R_below HO_15.out hb); have n1_:=Aside0.mk (Kd.R_below (Kd.R_elderB HO_17.out gb406 (Nat.le_of_eq hg.symm)) hb); have n2_:=Aside0.mk (below_step HB.out hb); have n3_:=Aside0.mk (hbox); have n4_:=Aside0.mk ((by rw [hg]; exact (below_size HB.out) : w.heap.size≤gb406)); have n5_:=Aside0.mk ((by rw [hg]; exact (below_size HB.out) : w.heap.size≤gb406)); clear HO_15; clear HO_17; clear HB; have HO_15:=n0_; have HO_17:=n1_; have HB:=n2_; have BK406:=n3_; have GW406:=n4_; have GE406:=n5_; clear n0_ n1_ n2_ n3_ n4_ n5_; clear hb hbox hg; have hcz89_0 : w88.cell? ⟨gb406,0,none⟩ = some (.int .i64 0):=(blk_cell BK406.out 0).trans rfl; have hcz89_1 : w88.cell? ⟨gb406,1,none⟩ = some (.int .i64 0):=(blk_cell BK406.out 1).trans rfl; have hcz89_2 : w88.cell? ⟨gb406,2,none⟩ = some (.int .i64 0):=(blk_cell BK406.out 2).trans rfl; have hfz89_0:=blk_frozen BK406.out 0; have hfz89_1:=blk_frozen BK406.out 1; have hfz89_2:=blk_frozen BK406.out 2; obtain ⟨Ao90,co90,eo90⟩:=Kd.R_slice HO_15.out; subst eo90; have p407 : 0≤(x121_4 : Int):=Qt; have q407 : x121_4 < (t397.length : Int):=Qt; obtain ⟨ad407,e407,hx407_0,hx407_1,hx407_2⟩:=at_T80 (Kd.R_reads' HO_15.out).2.2 x121_4 p407 q407; cases e407; have hn407_0 : ad407.block ≠ gb406:=Kd.own_blk (Kd.R_ne HO_15.out BK406.out (by decide)); have hn407_1 : ad407.block ≠ gb406:=Kd.own_blk (Kd.R_ne HO_15.out BK406.out (by decide)); have hn407_2 : ad407.block ≠ gb406:=Kd.own_blk (Kd.R_ne HO_15.out BK406.out (by decide)); replace hx407_0:=(cell_far (p:=⟨gb406,0,none⟩) (by first | (rw [add_block]; exact hn407_0) | (show (Addr.add _ _).block ≠ _; rw [add_block]; exact hn407_0) | exact hn407_0) (.int .i64 ((rd_T79 t402 x121_4).f0))).trans hx407_0; replace hx407_1:=(cell_far (p:=⟨gb406,0,none⟩) (by first | (rw [add_block]; exact hn407_0) | (show (Addr.add _ _).block ≠ _; rw [add_block]; exact hn407_0) | exact hn407_0) (.int .i64 ((rd_T79 t402 x121_4).f0))).trans hx407_1; replace hx407_2:=(cell_far (p:=⟨gb406,0,none⟩) (by first | (rw [add_block]; exact hn407_0) | (show (Addr.add _ _).block ≠ _; rw [add_block]; exact hn407_0) | exact hn407_0) (.int .i64 ((rd_T79 t402 x121_4).f0))).trans hx407_2; replace hx407_0:=(cell_far (p:=⟨gb406,1,none⟩) (by first | (rw [add_block]; exact hn407_1) | (show (Addr.add _ _).block ≠ _; rw [add_block]; exact hn407_1) | exact hn407_1) (.int .i64 ((rd_T79 t402 x121_4).f1))).trans hx407_0; replace hx407_1:=(cell_far (p:=⟨gb406,1,none⟩) (by first | (rw [add_block]; exact hn407_1) | (show (Addr.add _ _).block ≠ _; rw [add_block]; exact hn407_1) | exact hn407_1) (.int .i64 ((rd_T79 t402 x121_4).f1))).trans hx407_1; replace hx407_2:=(cell_far (p:=⟨gb406,1,none⟩) (by first | (rw [add_block]; exact hn407_1) | (show (Addr.add _ _).block ≠ _; rw [add_block]; exact hn407_1) | exact hn407_1) (.int .i64 ((rd_T79 t402 x121_4).f1))).trans hx407_2; replace hx407_0:=(cell_far (p:=⟨gb406,2,none⟩) (by first | (rw [add_block]; exact hn407_2) | (show (Addr.add _ _).block ≠ _; rw [add_block]; exact hn407_2) | exact hn407_2) (.int .i64 ((rd_T79 t402 x121_4).f2))).trans hx407_0; replace hx407_1:=(cell_far (p:=⟨gb406,2,none⟩) (by first | (rw [add_block]; exact hn407_2) | (show (Addr.add _ _).block ≠ _; rw [add_block]; exact hn407_2) | exact hn407_2) (.int .i64 ((rd_T79 t402 x121_4).f2))).trans hx407_1; replace hx407_2:=(cell_far (p:=⟨gb406,2,none⟩) (by first | (rw [add_block]; exact hn407_2) | (show (Addr.add _ _).block ≠ _; rw [add_block]; exact hn407_2) | exact hn407_2) (.int .i64 ((rd_T79 t402 x121_4).f2))).trans hx407_2; (try have hy407_0:=fun (n_ : Nat)=>(show (((((w88.drewN n_).setCell ⟨gb406,0,none⟩ (.int .i64 ((rd_T79 t402 x121_4).f0))).setCell ⟨gb406,1,none⟩ (.int .i64 ((rd_T79 t402 x121_4).f1))).setCell ⟨gb406,2,none⟩ (.int .i64 ((rd_T79 t402 x121_4).f2)))).cell? _ = some _ from hx407_0)); (try have hy407_1:=fun (n_ : Nat)=>(show (((((w88.drewN n_).setCell ⟨gb406,0,none⟩ (.int .i64 ((rd_T79 t402 x121_4).f0))).setCell ⟨gb406,1,none⟩ (.int .i64 ((rd_T79 t402 x121_4).f1))).setCell ⟨gb406,2,none⟩ (.int .i64 ((rd_T79 t402 x121_4).f2)))).cell? _ = some _ from hx407_1)); (try have hy407_2:=fun (n_ : Nat)=>(show (((((w88.drewN n_).setCell ⟨gb406,0,none⟩ (.int .i64 ((rd_T79 t402 x121_4).f0))).setCell ⟨gb406,1,none⟩ (.int .i64 ((rd_T79 t402 x121_4).f1))).setCell ⟨gb406,2,none⟩ (.int .i64 ((rd_T79 t402 x121_4).f2)))).cell? _ = some _ from hx407_2)); clear hn407_0; clear hn407_1; clear hn407_2; replace p407:=eq_true p407; replace q407:=eq_true q407)))
                   go_ret
                   exact ⟨by first | rfl | (simp [errW_none,errW_some] <;> rfl) | (simp [*,errW_none,errW_some] <;> rfl),by repeat (first | (with_reducible first | exact HB.out | apply below_alloc | apply pw_below_drewN | apply below_drew1 | refine below_set ?_ GE406.out) | exact HB.out)⟩
                  ·rw [if_neg c87] at H
                   have c87b0 : (!(((rd_T80 t397 x121_4).f0) == ((rd_T79 t402 x121_4).f0)) || (!(((rd_T80 t397 x121_4).f1) == ((rd_T79 t402 x121_4).f1)) || (!(((rd_T80 t397 x121_4).f2) == ((rd_T79 t402 x121_4).f2))))) = false:=by simpa using c87
                   clear c87
                   have H':=Aside0.mk H
                   clear H
                   have p405 : 0≤(x121_4 : Int):=Qt
                   have q405 : x121_4 < (t402.length : Int):=Qt
                   obtain ⟨ad405,e405,hx405_0,hx405_1,hx405_2⟩:=at_T79 (Kd.R_reads' HO_17.out).2.2 x121_4 p405 q405
                   cases e405
                   replace p405:=eq_true p405
                   replace q405:=eq_true q405
                   go_wp2_with (first | (refine gate_dst (N:=19) rfl ?_; (try (refine gate_guard (rfl) ?_; dsimp only)); refine box_event ?hg (N:=19) ?hd (cs:=#[.int .i64 0,.int .i64 0,.int .i64 0]) (t:=79) ?hr ?_; (case hd=>rfl); (case hg=>rfl); (case hr=>first | (go_simp; done) | (go_simp; rfl)); intro gb406 hg w91 hbox hb; have n0_:=Aside0.mk (Kd.R_below HO_15.out hb); have n1_:=Aside0.mk (Kd.R_below (Kd.R_elderB HO_17.out gb406 (Nat.le_of_eq hg.symm)) hb); have n2_:=Aside0.mk (below_step HB.out hb); have n3_:=Aside0.mk (hbox); have n4_:=Aside0.mk ((by rw [hg]; exact (below_size HB.out) : w.heap.size≤gb406)); have n5_:=Aside0.mk ((by rw [hg]; exact (below_size HB.out) : w.heap.size≤gb406)); clear HO_15; clear HO_17; clear HB; have HO_15:=n0_; have HO_17:=n1_; have HB:=n2_; have BK406:=n3_; have GW406:=n4_; have GE406:=n5_; clear n0_ n1_ n2_ n3_ n4_ n5_; clear hb hbox hg; have hcz92_0 : w91.cell? ⟨gb406,0,none⟩ = some (.int .i64 0):=(blk_cell BK406.out 0).trans rfl; have hcz92_1 : w91.cell? ⟨gb406,1,none⟩ = some (.int .i64 0):=(blk_cell BK406.out 1).trans rfl; have hcz92_2 : w91.cell? ⟨gb406,2,none⟩ = some (.int .i64 0):=(blk_cell BK406.out 2).trans rfl; have hfz92_0:=blk_frozen BK406.out 0; have hfz92_1:=blk_frozen BK406.out 1; have hfz92_2:=blk_frozen BK406.out 2; obtain ⟨Ao93,co93,eo93⟩:=Kd.R_slice HO_15.out; subst eo93; have p407 : 0≤(x121_4 : Int):=Qt; have q407 : x121_4 < (t397.length : Int):=Qt; obtain ⟨ad407,e407,hx407_0,hx407_1,hx407_2⟩:=at_T80 (Kd.R_reads' HO_15.out).2.2 x121_4 p407 q407; cases e407; have hn407_0 : ad407.block ≠ gb406:=Kd.own_blk (Kd.R_ne HO_15.out BK406.out (by decide)); have hn407_1 : ad407.block ≠ gb406:=Kd.own_blk (Kd.R_ne HO_15.out BK406.out (by decide)); have hn407_2 : ad407.block ≠ gb406:=Kd.own_blk (Kd.R_ne HO_15.out BK406.out (by decide)); replace hx407_0:=(cell_far (p:=⟨gb406,0,none⟩) (by first | (rw [add_block]; exact hn407_0) | (show (Addr.add _ _).block ≠ _; rw [add_block]; exact hn407_0) | exact hn407_0) (.int .i64 ((rd_T79 t402 x121_4).f0))).trans hx407_0; replace hx407_1:=(cell_far (p:=⟨gb406,0,none⟩) (by first | (rw [add_block]; exact hn407_0) | (show (Addr.add _ _).block ≠ _; rw [add_block]; exact hn407_0) | exact hn407_0) (.int .i64 ((rd_T79 t402 x121_4).f0))).trans hx407_1; replace hx407_2:=(cell_far (p:=⟨gb406,0,none⟩) (by first | (rw [add_block]; exact hn407_0) | (show (Addr.add _ _).block ≠ _; rw [add_block]; exact hn407_0) | exact hn407_0) (.int .i64 ((rd_T79 t402 x121_4).f0))).trans hx407_2; replace hx407_0:=(cell_far (p:=⟨gb406,1,none⟩) (by first | (rw [add_block]; exact hn407_1) | (show (Addr.add _ _).block ≠ _; rw [add_block]; exact hn407_1) | exact hn407_1) (.int .i64 ((rd_T79 t402 x121_4).f1))).trans hx407_0; replace hx407_1:=(cell_far (p:=⟨gb406,1,none⟩) (by first | (rw [add_block]; exact hn407_1) | (show (Addr.add _ _).block ≠ _; rw [add_block]; exact hn407_1) | exact hn407_1) (.int .i64 ((rd_T79 t402 x121_4).f1))).trans hx407_1; replace hx407_2:=(cell_far (p:=⟨gb406,1,none⟩) (by first | (rw [add_block]; exact hn407_1) | (show (Addr.add _ _).block ≠ _; rw [add_block]; exact hn407_1) | exact hn407_1) (.int .i64 ((rd_T79 t402 x121_4).f1))).trans hx407_2; replace hx407_0:=(cell_far (p:=⟨gb406,2,none⟩) (by first | (rw [add_block]; exact hn407_2) | (show (Addr.add _ _).block ≠ _; rw [add_block]; exact hn407_2) | exact hn407_2) (.int .i64 ((rd_T79 t402 x121_4).f2))).trans hx407_0; replace hx407_1:=(cell_far (p:=⟨gb406,2,none⟩) (by first | (rw [add_block]; exact hn407_2) | (show (Addr.add _ _).block ≠ _; rw [add_block]; exact hn407_2) | exact hn407_2) (.int .i64 ((rd_T79 t402 x121_4).f2))).trans hx407_1; replace hx407_2:=(cell_far (p:=⟨gb406,2,none⟩) (by first | (rw [add_block]; exact hn407_2) | (show (Addr.add _ _).block ≠ _; rw [add_block]; exact hn407_2) | exact hn407_2) (.int .i64 ((rd_T79 t402 x121_4).f2))).trans hx407_2; (try have hy407_0:=fun (n_ : Nat)=>(show (((((w91.drewN n_).setCell ⟨gb406,0,none⟩ (.int .i64 ((rd_T79 t402 x121_4).f0))).setCell ⟨gb406,1,none⟩ (.int .i64 ((rd_T79 t402 x121_4).f1))).setCell ⟨gb406,2,none⟩ (.int .i64 ((rd_T79 t402 x121_4).f2)))).cell? _ = some _ from hx407_0)); (try have hy407_1:=fun (n_ : Nat)=>(show (((((w91.drewN n_).setCell ⟨gb406,0,none⟩ (.int .i64 ((rd_T79 t402 x121_4).f0))).setCell ⟨gb406,1,none⟩ (.int .i64 ((rd_T79 t402 x121_4).f1))).setCell ⟨gb406,2,none⟩ (.int .i64 ((rd_T79 t402 x121_4).f2)))).cell? _ = some _ from hx407_1)); (try have hy407_2:=fun (n_ : Nat)=>(show (((((w91.drewN n_).setCell ⟨gb406,0,none⟩ (.int .i64 ((rd_T79 t402 x121_4).f0))).setCell ⟨gb406,1,none⟩ (.int .i64 ((rd_T79 t402 x121_4).f1))).setCell ⟨gb406,2,none⟩ (.int .i64 ((rd_T79 t402 x121_4).f2)))).cell? _ = some _ from hx407_2)); clear hn407_0; clear hn407_1; clear hn407_2; replace p407:=eq_true p407; replace q407:=eq_true q407))
                   repeat (go_quiet (first | (refine gate_dst (N:=19) rfl ?_; (try (refine gate_guard (rfl) ?_; dsimp only)); refine box_event ?hg (N:=19) ?hd (cs:=#[.int .i64 0,.int .i64 0,.int .i64 0]) (t:=79) ?hr ?_; (case hd=>rfl); (case hg=>rfl); (case hr=>first | (go_simp; done) | (go_simp; rfl)); intro gb406 hg w91 hbox hb; have n0_:=Aside0.mk (Kd.R_below HO_15.out hb); have n1_:=Aside0.mk (Kd.R_below (Kd.R_elderB HO_17.out gb406 (Nat.le_of_eq hg.symm)) hb); have n2_:=Aside0.mk (below_step HB.out hb); have n3_:=Aside0.mk (hbox); have n4_:=Aside0.mk ((by rw [hg]; exact (below_size HB.out) : w.heap.size≤gb406)); have n5_:=Aside0.mk ((by rw [hg]; exact (below_size HB.out) : w.heap.size≤gb406)); clear HO_15; clear HO_17; clear HB; have HO_15:=n0_; have HO_17:=n1_; have HB:=n2_; have BK406:=n3_; have GW406:=n4_; have GE406:=n5_; clear n0_ n1_ n2_ n3_ n4_ n5_; clear hb hbox hg; have hcz92_0 : w91.cell? ⟨gb406,0,none⟩ = some (.int .i64 0):=(blk_cell BK406.out 0).trans rfl; have hcz92_1 : w91.cell? ⟨gb406,1,none⟩ = some (.int .i64 0):=(blk_cell BK406.out 1).trans rfl; have hcz92_2 : w91.cell? ⟨gb406,2,none⟩ = some (.int .i64 0):=(blk_cell BK406.out 2).trans rfl; have hfz92_0:=blk_frozen BK406.out 0; have hfz92_1:=blk_frozen BK406.out 1; have hfz92_2:=blk_frozen BK406.out 2; obtain ⟨Ao93,co93,eo93⟩:=Kd.R_slice HO_15.out; subst eo93; have p407 : 0≤(x121_4 : Int):=Qt; have q407 : x121_4 < (t397.length : Int):=Qt; obtain ⟨ad407,e407,hx407_0,hx407_1,hx407_2⟩:=at_T80 (Kd.R_reads' HO_15.out).2.2 x121_4 p407 q407; cases e407; have hn407_0 : ad407.block ≠ gb406:=Kd.own_blk (Kd.R_ne HO_15.out BK406.out (by decide)); have hn407_1 : ad407.block ≠ gb406:=Kd.own_blk (Kd.R_ne HO_15.out BK406.out (by decide)); have hn407_2 : ad407.block ≠ gb406:=Kd.own_blk (Kd.R_ne HO_15.out BK406.out (by decide)); replace hx407_0:=(cell_far (p:=⟨gb406,0,none⟩) (by first | (rw [add_block]; exact hn407_0) | (show (Addr.add _ _).block ≠ _; rw [add_block]; exact hn407_0) | exact hn407_0) (.int .i64 ((rd_T79 t402 x121_4).f0))).trans hx407_0; replace hx407_1:=(cell_far (p:=⟨gb406,0,none⟩) (by first | (rw [add_block]; exact hn407_0) | (show (Addr.add _ _).block ≠ _; rw [add_block]; exact hn407_0) | exact hn407_0) (.int .i64 ((rd_T79 t402 x121_4).f0))).trans hx407_1; replace hx407_2:=(cell_far (p:=⟨gb406,0,none⟩) (by first | (rw [add_block]; exact hn407_0) | (show (Addr.add _ _).block ≠ _; rw [add_block]; exact hn407_0) | exact hn407_0) (.int .i64 ((rd_T79 t402 x121_4).f0))).trans hx407_2; replace hx407_0:=(cell_far (p:=⟨gb406,1,none⟩) (by first | (rw [add_block]; exact hn407_1) | (show (Addr.add _ _).block ≠ _; rw [add_block]; exact hn407_1) | exact hn407_1) (.int .i64 ((rd_T79 t402 x121_4).f1))).trans hx407_0; replace hx407_1:=(cell_far (p:=⟨gb406,1,none⟩) (by first | (rw [add_block]; exact hn407_1) | (show (Addr.add _ _).block ≠ _; rw [add_block]; exact hn407_1) | exact hn407_1) (.int .i64 ((rd_T79 t402 x121_4).f1))).trans hx407_1; replace hx407_2:=(cell_far (p:=⟨gb406,1,none⟩) (by first | (rw [add_block]; exact hn407_1) | (show (Addr.add _ _).block ≠ _; rw [add_block]; exact hn407_1) | exact hn407_1) (.int .i64 ((rd_T79 t402 x121_4).f1))).trans hx407_2; replace hx407_0:=(cell_far (p:=⟨gb406,2,none⟩) (by first | (rw [add_block]; exact hn407_2) | (show (Addr.add _ _).block ≠ _; rw [add_block]; exact hn407_2) | exact hn407_2) (.int .i64 ((rd_T79 t402 x121_4).f2))).trans hx407_0; replace hx407_1:=(cell_far (p:=⟨gb406,2,none⟩) (by first | (rw [add_block]; exact hn407_2) | (show (Addr.add _ _).block ≠ _; rw [add_block]; exact hn407_2) | exact hn407_2) (.int .i64 ((rd_T79 t402 x121_4).f2))).trans hx407_1; replace hx407_2:=(cell_far (p:=⟨gb406,2,none⟩) (by first | (rw [add_block]; exact hn407_2) | (show (Addr.add _ _).block ≠ _; rw [add_block]; exact hn407_2) | exact hn407_2) (.int .i64 ((rd_T79 t402 x121_4).f2))).trans hx407_2; (try have hy407_0:=fun (n_ : Nat)=>(show (((((w91.drewN n_).setCell ⟨gb406,0,none⟩ (.int .i64 ((rd_T79 t402 x121_4).f0))).setCell ⟨gb406,1,none⟩ (.int .i64 ((rd_T79 t402 x121_4).f1))).setCell ⟨gb406,2,none⟩ (.int .i64 ((rd_T79 t402 x121_4).f2)))).cell? _ = some _ from hx407_0)); (try have hy407_1:=fun (n_ : Nat)=>(show (((((w91.drewN n_).setCell ⟨gb406,0,none⟩ (.int .i64 ((rd_T79 t402 x121_4).f0))).setCell ⟨gb406,1,none⟩ (.int .i64 ((rd_T79 t402 x121_4).f1))).setCell ⟨gb406,2,none⟩ (.int .i64 ((rd_T79 t402 x121_4).f2)))).cell? _ = some _ from hx407_1)); (try have hy407_2:=fun (n_ : Nat)=>(show (((((w91.drewN n_).setCell ⟨gb406,0,none⟩ (.int .i64 ((rd_T79 t402 x121_4).f0))).setCell ⟨gb406,1,none⟩ (.int .i64 ((rd_T79 t402 x121_4).f1))).setCell ⟨gb406,2,none⟩ (.int .i64 ((rd_T79 t402 x121_4).f2)))).cell? _ = some _ from hx407_2)); clear hn407_0; clear hn407_1; clear hn407_2; replace p407:=eq_true p407; replace q407:=eq_true q407)); try go_wp2_with (first | (refine gate_dst (N:=19) rfl ?_; (try (refine gate_guard (rfl) ?_; dsimp only)); refine box_event ?hg (N:=19) ?hd (cs:=#[.int .i64 0,.int .i64 0,.int .i64 0]) (t:=79) ?hr ?_; (case hd=>rfl); (case hg=>rfl); (case hr=>first | (go_simp; done) | (go_simp; rfl)); intro gb406 hg w91 hbox hb; have n0_:=Aside0.mk (Kd.R_below HO_15.out hb); have n1_:=Aside0.mk (Kd.R_below (Kd.R_elderB HO_17.out gb406 (Nat.le_of_eq hg.symm)) hb); have n2_:=Aside0.mk (below_step HB.out hb); have n3_:=Aside0.mk (hbox); have n4_:=Aside0.mk ((by rw [hg]; exact (below_size HB.out) : w.heap.size≤gb406)); have n5_:=Aside0.mk ((by rw [hg]; exact (below_size HB.out) : w.heap.size≤gb406)); clear HO_15; clear HO_17; clear HB; have HO_15:=n0_; have HO_17:=n1_; have HB:=n2_; have BK406:=n3_; have GW406:=n4_; have GE406:=n5_; clear n0_ n1_ n2_ n3_ n4_ n5_; clear hb hbox hg; have hcz92_0 : w91.cell? ⟨gb406,0,none⟩ = some (.int .i64 0):=(blk_cell BK406.out 0).trans rfl; have hcz92_1 : w91.cell? ⟨gb406,1,none⟩ = some (.int .i64 0):=(blk_cell BK406.out 1).trans rfl; have hcz92_2 : w91.cell? ⟨gb406,2,none⟩ = some (.int .i64 0):=(blk_cell BK406.out 2).trans rfl; have hfz92_0:=blk_frozen BK406.out 0; have hfz92_1:=blk_frozen BK406.out 1; have hfz92_2:=blk_frozen BK406.out 2; obtain ⟨Ao93,co93,eo93⟩:=Kd.R_slice HO_15.out; subst eo93; have p407 : 0≤(x121_4 : Int):=Qt; have q407 : x121_4 < (t397.length : Int):=Qt; obtain ⟨ad407,e407,hx407_0,hx407_1,hx407_2⟩:=at_T80 (Kd.R_reads' HO_15.out).2.2 x121_4 p407 q407; cases e407; have hn407_0 : ad407.block ≠ gb406:=Kd.own_blk (Kd.R_ne HO_15.out BK406.out (by decide)); have hn407_1 : ad407.block ≠ gb406:=Kd.own_blk (Kd.R_ne HO_15.out BK406.out (by decide)); have hn407_2 : ad407.block ≠ gb406:=Kd.own_blk (Kd.R_ne HO_15.out BK406.out (by decide)); replace hx407_0:=(cell_far (p:=⟨gb406,0,none⟩) (by first | (rw [add_block]; exact hn407_0) | (show (Addr.add _ _).block ≠ _; rw [add_block]; exact hn407_0) | exact hn407_0) (.int .i64 ((rd_T79 t402 x121_4).f0))).trans hx407_0; replace hx407_1:=(cell_far (p:=⟨gb406,0,none⟩) (by first | (rw [add_block]; exact hn407_0) | (show (Addr.add _ _).block ≠ _; rw [add_block]; exact hn407_0) | exact hn407_0) (.int .i64 ((rd_T79 t402 x121_4).f0))).trans hx407_1; replace hx407_2:=(cell_far (p:=⟨gb406,0,none⟩) (by first | (rw [add_block]; exact hn407_0) | (show (Addr.add _ _).block ≠ _; rw [add_block]; exact hn407_0) | exact hn407_0) (.int .i64 ((rd_T79 t402 x121_4).f0))).trans hx407_2; replace hx407_0:=(cell_far (p:=⟨gb406,1,none⟩) (by first | (rw [add_block]; exact hn407_1) | (show (Addr.add _ _).block ≠ _; rw [add_block]; exact hn407_1) | exact hn407_1) (.int .i64 ((rd_T79 t402 x121_4).f1))).trans hx407_0; replace hx407_1:=(cell_far (p:=⟨gb406,1,none⟩) (by first | (rw [add_block]; exact hn407_1) | (show (Addr.add _ _).block ≠ _; rw [add_block]; exact hn407_1) | exact hn407_1) (.int .i64 ((rd_T79 t402 x121_4).f1))).trans hx407_1; replace hx407_2:=(cell_far (p:=⟨gb406,1,none⟩) (by first | (rw [add_block]; exact hn407_1) | (show (Addr.add _ _).block ≠ _; rw [add_block]; exact hn407_1) | exact hn407_1) (.int .i64 ((rd_T79 t402 x121_4).f1))).trans hx407_2; replace hx407_0:=(cell_far (p:=⟨gb406,2,none⟩) (by first | (rw [add_block]; exact hn407_2) | (show (Addr.add _ _).block ≠ _; rw [add_block]; exact hn407_2) | exact hn407_2) (.int .i64 ((rd_T79 t402 x121_4).f2))).trans hx407_0; replace hx407_1:=(cell_far (p:=⟨gb406,2,none⟩) (by first | (rw [add_block]; exact hn407_2) | (show (Addr.add _ _).block ≠ _; rw [add_block]; exact hn407_2) | exact hn407_2) (.int .i64 ((rd_T79 t402 x121_4).f2))).trans hx407_1; replace hx407_2:=(cell_far (p:=⟨gb406,2,none⟩) (by first | (rw [add_block]; exact hn407_2) | (show (Addr.add _ _).block ≠ _; rw [add_block]; exact hn407_2) | exact hn407_2) (.int .i64 ((rd_T79 t402 x121_4).f2))).trans hx407_2; (try have hy407_0:=fun (n_ : Nat)=>(show (((((w91.drewN n_).setCell ⟨gb406,0,none⟩ (.int .i64 ((rd_T79 t402 x121_4).f0))).setCell ⟨gb406,1,none⟩ (.int .i64 ((rd_T79 t402 x121_4).f1))).setCell ⟨gb406,2,none⟩ (.int .i64 ((rd_T79 t402 x121_4).f2)))).cell? _ = some _ from hx407_0)); (try have hy407_1:=fun (n_ : Nat)=>(show (((((w91.drewN n_).setCell ⟨gb406,0,none⟩ (.int .i64 ((rd_T79 t402 x121_4).f0))).setCell ⟨gb406,1,none⟩ (.int .i64 ((rd_T79 t402 x121_4).f1))).setCell ⟨gb406,2,none⟩ (.int .i64 ((rd_T79 t402 x121_4).f2)))).cell? _ = some _ from hx407_1)); (try have hy407_2:=fun (n_ : Nat)=>(show (((((w91.drewN n_).setCell ⟨gb406,0,none⟩ (.int .i64 ((rd_T79 t402 x121_4).f0))).setCell ⟨gb406,1,none⟩ (.int .i64 ((rd_T79 t402 x121_4).f1))).setCell ⟨gb406,2,none⟩ (.int .i64 ((rd_T79 t402 x121_4).f2)))).cell? _ = some _ from hx407_2)); clear hn407_0; clear hn407_1; clear hn407_2; replace p407:=eq_true p407; replace q407:=eq_true q407)))
                   go_roundg k4
                   case measure=>have:=HJ10.out; have:=HJ18.out; have:=HJ74.out; have:=HK4.out; omega
                   case rel=>exact ⟨(wrap64 (x121_4 + 1)),(by first | rfl | (simp; done) | (simp [*]; done)),H',⟨by have:=HJ10.out; have:=HJ18.out; have:=HJ74.out; have:=HK4.out; omega⟩,⟨by (with_reducible repeat first|apply Qa|apply Qb|apply Qc); exact Kd.R_mono (Kd.R_far (p:=⟨gb406,2,none⟩) (Kd.R_far (p:=⟨gb406,1,none⟩) (Kd.R_far (p:=⟨gb406,0,none⟩) (Kd.R_types HO_15.out BK406.out (by decide)) (fun _ hk=>hk.2) (.int .i64 ((rd_T79 t402 x121_4).f0))) (fun _ hk=>hk.2) (.int .i64 ((rd_T79 t402 x121_4).f1))) (fun _ hk=>hk.2) (.int .i64 ((rd_T79 t402 x121_4).f2))) (fun _ hk=>trivial)⟩,⟨by (with_reducible repeat first|apply Qa|apply Qb|apply Qc); exact Kd.R_mono (Kd.R_far (p:=⟨gb406,2,none⟩) (Kd.R_far (p:=⟨gb406,1,none⟩) (Kd.R_far (p:=⟨gb406,0,none⟩) (Kd.R_mono HO_17.out (fun k_ hk=>(⟨hk,hk.2⟩ : _∧k_ ≠ gb406))) (fun _ hk=>hk.2) (.int .i64 ((rd_T79 t402 x121_4).f0))) (fun _ hk=>hk.2) (.int .i64 ((rd_T79 t402 x121_4).f1))) (fun _ hk=>hk.2) (.int .i64 ((rd_T79 t402 x121_4).f2))) (fun _ hk=>trivial)⟩,⟨by repeat (first | (with_reducible first | exact HB.out | apply below_alloc | apply pw_below_drewN | apply below_drew1 | refine below_set ?_ GE406.out) | exact HB.out)⟩⟩
                 ·rw [if_neg c86] at H
                  exact absurd H (by simp)
                ·rw [if_neg c85] at H
                 exact absurd H (by simp)
               ·rw [if_neg c84] at H
                exact absurd H (by simp)
              ·rw [if_neg c83] at H
               have c83b0 : decide (x121_4 < (t402.length : Int)) = false:=decide_eq_false c83
               clear c83
               replace H:=Option.bind_eq_some_iff.mp H
               obtain ⟨t408,A940,H⟩:=H
               replace H : (some t408) = some r:=H
               have A94:=Aside0.mk A940
               clear A940
               obtain rfl:=Option.some.inj H
               go_wp2_with (first | (go_at_call 15; (with_reducible refine (sapperlaw13_lives.calls k4  t408 _ A94.out).mono ?_); rintro e w95 ⟨rfl,hb⟩; have n0_:=Aside0.mk (Kd.R_below HO_15.out hb); have n1_:=Aside0.mk (Kd.R_below HO_17.out hb); have n2_:=Aside0.mk (below_step HB.out hb); clear HO_15; clear HO_17; clear HB; have HO_15:=n0_; have HO_17:=n1_; have HB:=n2_; clear n0_ n1_ n2_))
               go_ret
               exact ⟨rfl,HB.out⟩
noncomputable def sapperlaw13_SuffixKinds.Pure : Prop:=∀ (l0 : List Int) (a1 : Int) (a2 : Int),l0.length≤maxLen→l0.length * 1≤140737488351232→(∀ x ∈ l0,(Lit.int .u8 x).wf = true)→(Lit.int .i64 a1).wf = true→(Lit.int .i64 a2).wf = true→∃ k,sapperlaw13_SuffixKinds.f k l0 a1 a2 = some true
theorem sapperlaw13_SuffixKinds.walk (P : sapperlaw13_SuffixKinds.Pure) (a0 : Option Addr) (len0 cap0 : Nat) (z0 : List Int) (a1 : Int) (a2 : Int) (w : World) (w0 : (a0 = none∧len0 = 0∧cap0 = 0∧z0 = [])∨∃ x,a0 = some x∧len0≤cap0∧cap0≤maxLen∧z0.length = cap0∧(∀ i,i < z0.length→w.cell? (x.add i) = some (.int .u8 (z0.getD i 0)))∧∀ n ∈ z0,(Lit.int .u8 n).wf = true) (y0 : len0 * 1≤140737488351232) (w1 : (Lit.int .i64 a1).wf = true) (w2 : (Lit.int .i64 a2).wf = true) :
  Calls Try.prog 13 #[.slice a0 len0 cap0,.int .i64 a1,.int .i64 a2] w fun e w'=>e = .returned (.bool true)∧Below w.heap.size w w':=by
 obtain ⟨l0,rfl,hr0,hm0,hw0,hc0⟩:=ReadsInt.ofRowC w0
 obtain ⟨k,h⟩:=P l0 a1 a2 hm0 y0 hw0 w1 w2
 refine (sapperlaw13_SuffixKinds.calls k _ _ l0 a1 a2 true w (Kd.C_of_reads (d:=(0 : Int)) (h1:=fun _=>rfl) hr0) hc0 h).mono ?_
 rintro e w' ⟨rfl,hd⟩
 exact ⟨rfl,hd⟩

end Go.Proofs.Ythcnnfahlhklgaa.X
