-- Printed by wip/xprint.py of this repo (a wrapper of the session's own round the print).
import Derived.Test.YthcnnfahlhklgaaXx0
import Derived.Test.YthcnnfahlhklgaaXBA
namespace Go.Proofs.Ythcnnfahlhklgaa.X
open Go.RowKit Go.Proofs.YthcnnfahlhklgaaW.PrintWords Go.Proofs.YthcnnfahlhklgaaW.PrintLast Go.Proofs.YthcnnfahlhklgaaW.PrintMore
attribute [local go_sem] ptrOf_eql ptrOf_neq ptrOf_eqg ptrOf_neg str_leq str_geq str_gtr max2_int min2_int max_two min_two max_three min_three max_four min_four   -- for this text's walks alone
set_option linter.unusedVariables false
set_option linter.unusedSimpArgs false

/-! ### suffix_Index_same: function 53 -/
def suffix_Index_same.l0 : Nat→List (S82)→Int→Int→Int→Option (Int)
 | 0,_,_,_,_=>none
 | k + 1,x0,x1,x2,x7=>if 0 < (x0.length : Int) then (if (wrap64 (x1 + x7)) < (((rd_T82 x0 0).f1).length : Int) then (if (wrap64 (x2 + x7)) < (((rd_T82 x0 0).f1).length : Int) then (if 0≤(wrap64 (x1 + x7)) then (if 0≤(wrap64 (x2 + x7)) then (if (rd ((rd_T82 x0 0).f1) (wrap64 (x1 + x7))) = (rd ((rd_T82 x0 0).f1) (wrap64 (x2 + x7))) then (suffix_Index_same.l0 k x0 x1 x2 (wrap64 (x7 + 1))) else (some x7)) else (none)) else (none)) else (some x7)) else (some x7)) else (none)
def suffix_Index_same.f (k : Nat) (l0 : List (S82)) (a1 : Int) (a2 : Int) : Option (Int):=suffix_Index_same.l0 k l0 a1 a2 0
theorem suffix_Index_same.mono_l : ∀ k,(∀ y0 y1 y2 y3,LeO (suffix_Index_same.l0 k y0 y1 y2 y3) (suffix_Index_same.l0 (k + 1) y0 y1 y2 y3))
 | 0=>fun _ _ _ _ r h=>by simp [suffix_Index_same.l0] at h
 | k + 1=>by
  have ih0:=suffix_Index_same.mono_l k
  ·intro y0 y1 y2 y3
   unfold suffix_Index_same.l0
   repeat' first
   | (with_reducible exact ih0 _ _ _ _)
   | (with_reducible exact LeO.refl _)
   | (with_reducible exact LeO.none _)
   | (with_reducible refine LeO.ite ?_ ?_)
   | (with_reducible refine LeO.bind ?_ (fun _=>?_))
   | exact ih0 _ _ _ _
   | exact LeO.none _
   | refine LeO.ite ?_ ?_
   | refine LeO.bind ?_ (fun _=>?_)
theorem suffix_Index_same.mono : ∀ a0 a1 a2 k,LeO (suffix_Index_same.f k a0 a1 a2) (suffix_Index_same.f (k + 1) a0 a1 a2):=by
 intro a0 a1 a2 k
 have ih0:=suffix_Index_same.mono_l k
 unfold suffix_Index_same.f
 repeat' first
   | (with_reducible exact ih0 _ _ _ _)
   | (with_reducible exact LeO.refl _)
   | (with_reducible exact LeO.none _)
   | (with_reducible refine LeO.ite ?_ ?_)
   | (with_reducible refine LeO.bind ?_ (fun _=>?_))
   | exact ih0 _ _ _ _
   | exact LeO.none _
   | refine LeO.ite ?_ ?_
   | refine LeO.bind ?_ (fun _=>?_)
set_option maxHeartbeats 8000000 in
set_option maxRecDepth 100000 in
theorem suffix_Index_same.calls (k : Nat) (A0 : Option Addr) (c0 : Nat) (l0 : List (S82)) (a1 : Int) (a2 : Int) (r : Int) (w : World) (hr0 : Kd.C k82 w A0 l0.length l0) (hc0 : l0.length≤c0) (h : suffix_Index_same.f k l0 a1 a2 = some r) :
  Calls Try.prog 53 #[ptrOf (.slice A0 l0.length c0),.int .i64 a1,.int .i64 a2] w fun e w'=>e = .returned (.int .i64 r)∧Drawn0 w w':=by
 have HR0:=Aside0.mk hr0; have HC0:=Aside0.mk hc0; clear hr0 hc0; have H : (suffix_Index_same.l0 k l0 a1 a2 0) = some r:=h; clear h; have H':=Aside0.mk H; clear H
 go_enter Try.func53,Try.ntmps53
 go_wp2
 (repeat (go_quiet (fail); try go_wp2))
 go_loopg [7] k (fun kq v7 w'=>∃ (x7_1 : Int),v7 = .int .i64 x7_1∧Aside0 (suffix_Index_same.l0 kq l0 a1 a2 x7_1 = some r)∧Aside0 (kq≤k)∧Drawn0 w w')
 case atStart=>exact ⟨(0),(rfl),H',⟨Nat.le_refl _⟩,by repeat (first | exact Drawn0.refl _ | apply Drawn0.step)⟩
 case round =>
  clear H'; obtain ⟨x7_1,rfl,HA,HK1,⟨m1,rfl⟩⟩:=hrel
  cases gk with
  | zero=>exact absurd HA.out (by simp [suffix_Index_same.l0])
  | succ k1 =>
   have H:=HA.out; clear HA; simp only [suffix_Index_same.l0] at H
   by_cases c4 : 0 < (l0.length : Int)
   ·rw [if_pos c4] at H
    have c4b0 : decide (0 < (l0.length : Int)) = true:=decide_eq_true c4; have c4b1 : decide (0 < l0.length) = true:=decide_eq_true (by omega); clear c4
    by_cases c5 : (wrap64 (a1 + x7_1)) < (((rd_T82 l0 0).f1).length : Int)
    ·rw [if_pos c5] at H
     have c5b0 : decide ((wrap64 (a1 + x7_1)) < (((rd_T82 l0 0).f1).length : Int)) = true:=decide_eq_true c5; clear c5
     by_cases c6 : (wrap64 (a2 + x7_1)) < (((rd_T82 l0 0).f1).length : Int)
     ·rw [if_pos c6] at H
      have c6b0 : decide ((wrap64 (a2 + x7_1)) < (((rd_T82 l0 0).f1).length : Int)) = true:=decide_eq_true c6; clear c6; obtain ⟨ji7,hji7⟩ : ∃ j_ : Int,(wrap64 (a1 + x7_1)) = j_:=⟨_,rfl⟩
      replace H : (if 0≤(ji7) then (if 0≤(wrap64 (a2 + x7_1)) then (if (rd ((rd_T82 l0 0).f1) (ji7)) = (rd ((rd_T82 l0 0).f1) (wrap64 (a2 + x7_1))) then (suffix_Index_same.l0 k1 l0 a1 a2 (wrap64 (x7_1 + 1))) else (some x7_1)) else (none)) else (none)) = some r:=by first | (rw [hji7] at H; exact H) | (simp only [hji7] at H ⊢; exact H)
      (try rw [hji7] at c5b0); have hji7w : (IntKind.i64.wrap (a1 + x7_1)) = ji7:=(i64_w _).trans hji7
      by_cases c8 : 0≤(ji7)
      ·rw [if_pos c8] at H
       have c8b0 : decide (0≤(ji7)) = true:=decide_eq_true c8; clear c8; obtain ⟨ji9,hji9⟩ : ∃ j_ : Int,(wrap64 (a2 + x7_1)) = j_:=⟨_,rfl⟩
       replace H : (if 0≤(ji9) then (if (rd ((rd_T82 l0 0).f1) (ji7)) = (rd ((rd_T82 l0 0).f1) (ji9)) then (suffix_Index_same.l0 k1 l0 a1 a2 (wrap64 (x7_1 + 1))) else (some x7_1)) else (none)) = some r:=by first | (rw [hji9] at H; exact H) | (simp only [hji9] at H ⊢; exact H)
       (try rw [hji9] at c6b0); have hji9w : (IntKind.i64.wrap (a2 + x7_1)) = ji9:=(i64_w _).trans hji9
       by_cases c10 : 0≤(ji9)
       ·rw [if_pos c10] at H
        have c10b0 : decide (0≤(ji9)) = true:=decide_eq_true c10; clear c10
        by_cases c11 : (rd ((rd_T82 l0 0).f1) (ji7)) = (rd ((rd_T82 l0 0).f1) (ji9))
        ·rw [if_pos c11] at H
         have c11b0 : ((rd ((rd_T82 l0 0).f1) (ji7)) == (rd ((rd_T82 l0 0).f1) (ji9))) = true:=beq_iff_eq.mpr c11; have c11b1 : ((rd ((rd_T82 l0 0).f1) (ji7)) != (rd ((rd_T82 l0 0).f1) (ji9))) = false:=bne_eq_false_iff_eq.mpr c11; clear c11; have H':=Aside0.mk H; clear H; have p251 : 0≤(0 : Int):=(by omega); have q251 : 0 < (l0.length : Int):=Qt; obtain ⟨ad251,A251_1,c251_1,A251_2,c251_2,A251_3,c251_3,A251_4,c251_4,e251,hx251_0,hx251_1,hx251_2,hx251_3,hx251_4,hl251_1,hi251_1,hl251_2,hi251_2,hl251_3,hi251_3,hl251_4,hi251_4⟩:=at_T82 HR0.out 0 p251 q251; cases e251; have qi251 : (0 < l0.length) = True:=eq_true (by omega); (try rw [show ((0 : Int)).toNat = 0 from rfl] at hx251_0); (try rw [show 0 * 5 = 0 from rfl] at hx251_0); (try rw [Addr.add_zero'] at hx251_0); (try rw [show ((0 : Int)).toNat = 0 from rfl] at hx251_1); (try rw [show 0 * 5 = 0 from rfl] at hx251_1); (try rw [Addr.add_zero'] at hx251_1); (try rw [show ((0 : Int)).toNat = 0 from rfl] at hx251_2); (try rw [show 0 * 5 = 0 from rfl] at hx251_2); (try rw [Addr.add_zero'] at hx251_2); (try rw [show ((0 : Int)).toNat = 0 from rfl] at hx251_3); (try rw [show 0 * 5 = 0 from rfl] at hx251_3); (try rw [Addr.add_zero'] at hx251_3); (try rw [show ((0 : Int)).toNat = 0 from rfl] at hx251_4); (try rw [show 0 * 5 = 0 from rfl] at hx251_4); (try rw [Addr.add_zero'] at hx251_4); have HR251_1:=Aside0.mk hi251_1; have HC251_1:=Aside0.mk hl251_1; clear hi251_1 hl251_1; have HR251_2:=Aside0.mk hi251_2; have HC251_2:=Aside0.mk hl251_2; clear hi251_2 hl251_2; have HR251_3:=Aside0.mk hi251_3; have HC251_3:=Aside0.mk hl251_3; clear hi251_3 hl251_3; have HR251_4:=Aside0.mk hi251_4; have HC251_4:=Aside0.mk hl251_4; clear hi251_4 hl251_4; replace p251:=eq_true p251; replace q251:=eq_true q251; have hpt251 : ptrOf (.slice (some ad251) l0.length c0) = .pointer (some ad251):=ptrOf_pos _ _ _ (Qt); have p252 : 0≤(0 : Int):=(by omega); have q252 : 0 < (l0.length : Int):=Qt; obtain ⟨ad252,A252_1,c252_1,A252_2,c252_2,A252_3,c252_3,A252_4,c252_4,e252,hx252_0,hx252_1,hx252_2,hx252_3,hx252_4,hl252_1,hi252_1,hl252_2,hi252_2,hl252_3,hi252_3,hl252_4,hi252_4⟩:=at_T82 HR0.out 0 p252 q252; obtain rfl : ad251 = ad252:=(by injection e252); have qi252 : (0 < l0.length) = True:=eq_true (by omega); (try rw [show ((0 : Int)).toNat = 0 from rfl] at hx252_0); (try rw [show 0 * 5 = 0 from rfl] at hx252_0); (try rw [Addr.add_zero'] at hx252_0); (try rw [show ((0 : Int)).toNat = 0 from rfl] at hx252_1); (try rw [show 0 * 5 = 0 from rfl] at hx252_1); (try rw [Addr.add_zero'] at hx252_1); (try rw [show ((0 : Int)).toNat = 0 from rfl] at hx252_2); (try rw [show 0 * 5 = 0 from rfl] at hx252_2); (try rw [Addr.add_zero'] at hx252_2); (try rw [show ((0 : Int)).toNat = 0 from rfl] at hx252_3); (try rw [show 0 * 5 = 0 from rfl] at hx252_3); (try rw [Addr.add_zero'] at hx252_3); (try rw [show ((0 : Int)).toNat = 0 from rfl] at hx252_4); (try rw [show 0 * 5 = 0 from rfl] at hx252_4); (try rw [Addr.add_zero'] at hx252_4); have HR252_1:=Aside0.mk hi252_1; have HC252_1:=Aside0.mk hl252_1; clear hi252_1 hl252_1; have HR252_2:=Aside0.mk hi252_2; have HC252_2:=Aside0.mk hl252_2; clear hi252_2 hl252_2; have HR252_3:=Aside0.mk hi252_3; have HC252_3:=Aside0.mk hl252_3; clear hi252_3 hl252_3; have HR252_4:=Aside0.mk hi252_4; have HC252_4:=Aside0.mk hl252_4; clear hi252_4 hl252_4; replace p252:=eq_true p252; replace q252:=eq_true q252; have ea_:=Option.some.inj (hx251_1.symm.trans hx252_1)
         injection ea_ with ea_ en_ ec_
         subst ea_; subst ec_; clear en_; have ea_:=Option.some.inj (hx251_2.symm.trans hx252_2)
         injection ea_ with ea_ en_ ec_
         subst ea_; subst ec_; clear en_; have ea_:=Option.some.inj (hx251_3.symm.trans hx252_3)
         injection ea_ with ea_ en_ ec_
         subst ea_; subst ec_; clear en_; have ea_:=Option.some.inj (hx251_4.symm.trans hx252_4)
         injection ea_ with ea_ en_ ec_
         subst ea_; subst ec_; clear en_; have hpt252 : ptrOf (.slice (some ad251) l0.length c0) = .pointer (some ad251):=ptrOf_pos _ _ _ (Qt); have p253 : 0≤(0 : Int):=(by omega); have q253 : 0 < (l0.length : Int):=Qt; obtain ⟨ad253,A253_1,c253_1,A253_2,c253_2,A253_3,c253_3,A253_4,c253_4,e253,hx253_0,hx253_1,hx253_2,hx253_3,hx253_4,hl253_1,hi253_1,hl253_2,hi253_2,hl253_3,hi253_3,hl253_4,hi253_4⟩:=at_T82 HR0.out 0 p253 q253; obtain rfl : ad251 = ad253:=(by injection e253); have qi253 : (0 < l0.length) = True:=eq_true (by omega); (try rw [show ((0 : Int)).toNat = 0 from rfl] at hx253_0); (try rw [show 0 * 5 = 0 from rfl] at hx253_0); (try rw [Addr.add_zero'] at hx253_0); (try rw [show ((0 : Int)).toNat = 0 from rfl] at hx253_1); (try rw [show 0 * 5 = 0 from rfl] at hx253_1); (try rw [Addr.add_zero'] at hx253_1); (try rw [show ((0 : Int)).toNat = 0 from rfl] at hx253_2); (try rw [show 0 * 5 = 0 from rfl] at hx253_2); (try rw [Addr.add_zero'] at hx253_2); (try rw [show ((0 : Int)).toNat = 0 from rfl] at hx253_3); (try rw [show 0 * 5 = 0 from rfl] at hx253_3); (try rw [Addr.add_zero'] at hx253_3); (try rw [show ((0 : Int)).toNat = 0 from rfl] at hx253_4); (try rw [show 0 * 5 = 0 from rfl] at hx253_4); (try rw [Addr.add_zero'] at hx253_4); have HR253_1:=Aside0.mk hi253_1; have HC253_1:=Aside0.mk hl253_1; clear hi253_1 hl253_1; have HR253_2:=Aside0.mk hi253_2; have HC253_2:=Aside0.mk hl253_2; clear hi253_2 hl253_2; have HR253_3:=Aside0.mk hi253_3; have HC253_3:=Aside0.mk hl253_3; clear hi253_3 hl253_3; have HR253_4:=Aside0.mk hi253_4; have HC253_4:=Aside0.mk hl253_4; clear hi253_4 hl253_4; replace p253:=eq_true p253; replace q253:=eq_true q253; have ea_:=Option.some.inj (hx251_1.symm.trans hx253_1)
         injection ea_ with ea_ en_ ec_
         subst ea_; subst ec_; clear en_; have ea_:=Option.some.inj (hx251_2.symm.trans hx253_2)
         injection ea_ with ea_ en_ ec_
         subst ea_; subst ec_; clear en_; have ea_:=Option.some.inj (hx251_3.symm.trans hx253_3)
         injection ea_ with ea_ en_ ec_
         subst ea_; subst ec_; clear en_; have ea_:=Option.some.inj (hx251_4.symm.trans hx253_4)
         injection ea_ with ea_ en_ ec_
         subst ea_; subst ec_; clear en_; have hpt253 : ptrOf (.slice (some ad251) l0.length c0) = .pointer (some ad251):=ptrOf_pos _ _ _ (Qt); have p254 : 0≤((ji7) : Int):=Qt; have q254 : (ji7) < (((rd_T82 l0 0).f1).length : Int):=Qt; obtain ⟨ad254,e254,hx254_0⟩:=Kd.at_int HR253_1.out (ji7) p254 q254; cases e254; replace p254:=eq_true p254; replace q254:=eq_true q254; have p255 : 0≤(0 : Int):=(by omega); have q255 : 0 < (l0.length : Int):=Qt; obtain ⟨ad255,A255_1,c255_1,A255_2,c255_2,A255_3,c255_3,A255_4,c255_4,e255,hx255_0,hx255_1,hx255_2,hx255_3,hx255_4,hl255_1,hi255_1,hl255_2,hi255_2,hl255_3,hi255_3,hl255_4,hi255_4⟩:=at_T82 HR0.out 0 p255 q255; obtain rfl : ad251 = ad255:=(by injection e255); have qi255 : (0 < l0.length) = True:=eq_true (by omega); (try rw [show ((0 : Int)).toNat = 0 from rfl] at hx255_0); (try rw [show 0 * 5 = 0 from rfl] at hx255_0); (try rw [Addr.add_zero'] at hx255_0); (try rw [show ((0 : Int)).toNat = 0 from rfl] at hx255_1); (try rw [show 0 * 5 = 0 from rfl] at hx255_1); (try rw [Addr.add_zero'] at hx255_1); (try rw [show ((0 : Int)).toNat = 0 from rfl] at hx255_2); (try rw [show 0 * 5 = 0 from rfl] at hx255_2); (try rw [Addr.add_zero'] at hx255_2); (try rw [show ((0 : Int)).toNat = 0 from rfl] at hx255_3); (try rw [show 0 * 5 = 0 from rfl] at hx255_3); (try rw [Addr.add_zero'] at hx255_3); (try rw [show ((0 : Int)).toNat = 0 from rfl] at hx255_4); (try rw [show 0 * 5 = 0 from rfl] at hx255_4); (try rw [Addr.add_zero'] at hx255_4); have HR255_1:=Aside0.mk hi255_1; have HC255_1:=Aside0.mk hl255_1; clear hi255_1 hl255_1; have HR255_2:=Aside0.mk hi255_2; have HC255_2:=Aside0.mk hl255_2; clear hi255_2 hl255_2; have HR255_3:=Aside0.mk hi255_3; have HC255_3:=Aside0.mk hl255_3; clear hi255_3 hl255_3; have HR255_4:=Aside0.mk hi255_4; have HC255_4:=Aside0.mk hl255_4; clear hi255_4 hl255_4; replace p255:=eq_true p255; replace q255:=eq_true q255; have ea_:=Option.some.inj (hx251_1.symm.trans hx255_1)
         injection ea_ with ea_ en_ ec_
         subst ea_; subst ec_; clear en_; have ea_:=Option.some.inj (hx251_2.symm.trans hx255_2)
         injection ea_ with ea_ en_ ec_
         subst ea_; subst ec_; clear en_; have ea_:=Option.some.inj (hx251_3.symm.trans hx255_3)
         injection ea_ with ea_ en_ ec_
         subst ea_; subst ec_; clear en_; have ea_:=Option.some.inj (hx251_4.symm.trans hx255_4)
         injection ea_ with ea_ en_ ec_
         subst ea_; subst ec_; clear en_; have hpt255 : ptrOf (.slice (some ad251) l0.length c0) = .pointer (some ad251):=ptrOf_pos _ _ _ (Qt); have p256 : 0≤((ji9) : Int):=Qt; have q256 : (ji9) < (((rd_T82 l0 0).f1).length : Int):=Qt; obtain ⟨ad256,e256,hx256_0⟩:=Kd.at_int HR255_1.out (ji9) p256 q256; cases e256; replace p256:=eq_true p256; replace q256:=eq_true q256
         go_wp2
         (repeat (go_quiet (fail); try go_wp2)); (try (have Nhpt251:=Aside0.mk hpt251; clear hpt251; rw [← Nhpt251.out])); (try clear hpt255)
         go_roundg k1
         case measure=>have:=HK1.out; omega
         case rel=>exact ⟨(wrap64 (x7_1 + 1)),(rfl),H',⟨by have:=HK1.out; omega⟩,by repeat (first | exact Drawn0.refl _ | apply Drawn0.step)⟩
        ·rw [if_neg c11] at H
         have c11b0 : ((rd ((rd_T82 l0 0).f1) (ji7)) == (rd ((rd_T82 l0 0).f1) (ji9))) = false:=beq_eq_false_iff_ne.mpr c11; have c11b1 : ((rd ((rd_T82 l0 0).f1) (ji7)) != (rd ((rd_T82 l0 0).f1) (ji9))) = true:=bne_iff_ne.mpr c11; obtain rfl:=Option.some.inj H; have p251 : 0≤(0 : Int):=(by omega); have q251 : 0 < (l0.length : Int):=Qt; obtain ⟨ad251,A251_1,c251_1,A251_2,c251_2,A251_3,c251_3,A251_4,c251_4,e251,hx251_0,hx251_1,hx251_2,hx251_3,hx251_4,hl251_1,hi251_1,hl251_2,hi251_2,hl251_3,hi251_3,hl251_4,hi251_4⟩:=at_T82 HR0.out 0 p251 q251; cases e251; have qi251 : (0 < l0.length) = True:=eq_true (by omega); (try rw [show ((0 : Int)).toNat = 0 from rfl] at hx251_0); (try rw [show 0 * 5 = 0 from rfl] at hx251_0); (try rw [Addr.add_zero'] at hx251_0); (try rw [show ((0 : Int)).toNat = 0 from rfl] at hx251_1); (try rw [show 0 * 5 = 0 from rfl] at hx251_1); (try rw [Addr.add_zero'] at hx251_1); (try rw [show ((0 : Int)).toNat = 0 from rfl] at hx251_2); (try rw [show 0 * 5 = 0 from rfl] at hx251_2); (try rw [Addr.add_zero'] at hx251_2); (try rw [show ((0 : Int)).toNat = 0 from rfl] at hx251_3); (try rw [show 0 * 5 = 0 from rfl] at hx251_3); (try rw [Addr.add_zero'] at hx251_3); (try rw [show ((0 : Int)).toNat = 0 from rfl] at hx251_4); (try rw [show 0 * 5 = 0 from rfl] at hx251_4); (try rw [Addr.add_zero'] at hx251_4); have HR251_1:=Aside0.mk hi251_1; have HC251_1:=Aside0.mk hl251_1; clear hi251_1 hl251_1; have HR251_2:=Aside0.mk hi251_2; have HC251_2:=Aside0.mk hl251_2; clear hi251_2 hl251_2; have HR251_3:=Aside0.mk hi251_3; have HC251_3:=Aside0.mk hl251_3; clear hi251_3 hl251_3; have HR251_4:=Aside0.mk hi251_4; have HC251_4:=Aside0.mk hl251_4; clear hi251_4 hl251_4; replace p251:=eq_true p251; replace q251:=eq_true q251; have hpt251 : ptrOf (.slice (some ad251) l0.length c0) = .pointer (some ad251):=ptrOf_pos _ _ _ (Qt); have p252 : 0≤(0 : Int):=(by omega); have q252 : 0 < (l0.length : Int):=Qt; obtain ⟨ad252,A252_1,c252_1,A252_2,c252_2,A252_3,c252_3,A252_4,c252_4,e252,hx252_0,hx252_1,hx252_2,hx252_3,hx252_4,hl252_1,hi252_1,hl252_2,hi252_2,hl252_3,hi252_3,hl252_4,hi252_4⟩:=at_T82 HR0.out 0 p252 q252; obtain rfl : ad251 = ad252:=(by injection e252); have qi252 : (0 < l0.length) = True:=eq_true (by omega); (try rw [show ((0 : Int)).toNat = 0 from rfl] at hx252_0); (try rw [show 0 * 5 = 0 from rfl] at hx252_0); (try rw [Addr.add_zero'] at hx252_0); (try rw [show ((0 : Int)).toNat = 0 from rfl] at hx252_1); (try rw [show 0 * 5 = 0 from rfl] at hx252_1); (try rw [Addr.add_zero'] at hx252_1); (try rw [show ((0 : Int)).toNat = 0 from rfl] at hx252_2); (try rw [show 0 * 5 = 0 from rfl] at hx252_2); (try rw [Addr.add_zero'] at hx252_2); (try rw [show ((0 : Int)).toNat = 0 from rfl] at hx252_3); (try rw [show 0 * 5 = 0 from rfl] at hx252_3); (try rw [Addr.add_zero'] at hx252_3); (try rw [show ((0 : Int)).toNat = 0 from rfl] at hx252_4); (try rw [show 0 * 5 = 0 from rfl] at hx252_4); (try rw [Addr.add_zero'] at hx252_4); have HR252_1:=Aside0.mk hi252_1; have HC252_1:=Aside0.mk hl252_1; clear hi252_1 hl252_1; have HR252_2:=Aside0.mk hi252_2; have HC252_2:=Aside0.mk hl252_2; clear hi252_2 hl252_2; have HR252_3:=Aside0.mk hi252_3; have HC252_3:=Aside0.mk hl252_3; clear hi252_3 hl252_3; have HR252_4:=Aside0.mk hi252_4; have HC252_4:=Aside0.mk hl252_4; clear hi252_4 hl252_4; replace p252:=eq_true p252; replace q252:=eq_true q252; have ea_:=Option.some.inj (hx251_1.symm.trans hx252_1)
         injection ea_ with ea_ en_ ec_
         subst ea_; subst ec_; clear en_; have ea_:=Option.some.inj (hx251_2.symm.trans hx252_2)
         injection ea_ with ea_ en_ ec_
         subst ea_; subst ec_; clear en_; have ea_:=Option.some.inj (hx251_3.symm.trans hx252_3)
         injection ea_ with ea_ en_ ec_
         subst ea_; subst ec_; clear en_; have ea_:=Option.some.inj (hx251_4.symm.trans hx252_4)
         injection ea_ with ea_ en_ ec_
         subst ea_; subst ec_; clear en_; have hpt252 : ptrOf (.slice (some ad251) l0.length c0) = .pointer (some ad251):=ptrOf_pos _ _ _ (Qt); have p253 : 0≤(0 : Int):=(by omega); have q253 : 0 < (l0.length : Int):=Qt; obtain ⟨ad253,A253_1,c253_1,A253_2,c253_2,A253_3,c253_3,A253_4,c253_4,e253,hx253_0,hx253_1,hx253_2,hx253_3,hx253_4,hl253_1,hi253_1,hl253_2,hi253_2,hl253_3,hi253_3,hl253_4,hi253_4⟩:=at_T82 HR0.out 0 p253 q253; obtain rfl : ad251 = ad253:=(by injection e253); have qi253 : (0 < l0.length) = True:=eq_true (by omega); (try rw [show ((0 : Int)).toNat = 0 from rfl] at hx253_0); (try rw [show 0 * 5 = 0 from rfl] at hx253_0); (try rw [Addr.add_zero'] at hx253_0); (try rw [show ((0 : Int)).toNat = 0 from rfl] at hx253_1); (try rw [show 0 * 5 = 0 from rfl] at hx253_1); (try rw [Addr.add_zero'] at hx253_1); (try rw [show ((0 : Int)).toNat = 0 from rfl] at hx253_2); (try rw [show 0 * 5 = 0 from rfl] at hx253_2); (try rw [Addr.add_zero'] at hx253_2); (try rw [show ((0 : Int)).toNat = 0 from rfl] at hx253_3); (try rw [show 0 * 5 = 0 from rfl] at hx253_3); (try rw [Addr.add_zero'] at hx253_3); (try rw [show ((0 : Int)).toNat = 0 from rfl] at hx253_4); (try rw [show 0 * 5 = 0 from rfl] at hx253_4); (try rw [Addr.add_zero'] at hx253_4); have HR253_1:=Aside0.mk hi253_1; have HC253_1:=Aside0.mk hl253_1; clear hi253_1 hl253_1; have HR253_2:=Aside0.mk hi253_2; have HC253_2:=Aside0.mk hl253_2; clear hi253_2 hl253_2; have HR253_3:=Aside0.mk hi253_3; have HC253_3:=Aside0.mk hl253_3; clear hi253_3 hl253_3; have HR253_4:=Aside0.mk hi253_4; have HC253_4:=Aside0.mk hl253_4; clear hi253_4 hl253_4; replace p253:=eq_true p253; replace q253:=eq_true q253; have ea_:=Option.some.inj (hx251_1.symm.trans hx253_1)
         injection ea_ with ea_ en_ ec_
         subst ea_; subst ec_; clear en_; have ea_:=Option.some.inj (hx251_2.symm.trans hx253_2)
         injection ea_ with ea_ en_ ec_
         subst ea_; subst ec_; clear en_; have ea_:=Option.some.inj (hx251_3.symm.trans hx253_3)
         injection ea_ with ea_ en_ ec_
         subst ea_; subst ec_; clear en_; have ea_:=Option.some.inj (hx251_4.symm.trans hx253_4)
         injection ea_ with ea_ en_ ec_
         subst ea_; subst ec_; clear en_; have hpt253 : ptrOf (.slice (some ad251) l0.length c0) = .pointer (some ad251):=ptrOf_pos _ _ _ (Qt); have p254 : 0≤((ji7) : Int):=Qt; have q254 : (ji7) < (((rd_T82 l0 0).f1).length : Int):=Qt; obtain ⟨ad254,e254,hx254_0⟩:=Kd.at_int HR253_1.out (ji7) p254 q254; cases e254; replace p254:=eq_true p254; replace q254:=eq_true q254; have p255 : 0≤(0 : Int):=(by omega); have q255 : 0 < (l0.length : Int):=Qt; obtain ⟨ad255,A255_1,c255_1,A255_2,c255_2,A255_3,c255_3,A255_4,c255_4,e255,hx255_0,hx255_1,hx255_2,hx255_3,hx255_4,hl255_1,hi255_1,hl255_2,hi255_2,hl255_3,hi255_3,hl255_4,hi255_4⟩:=at_T82 HR0.out 0 p255 q255; obtain rfl : ad251 = ad255:=(by injection e255); have qi255 : (0 < l0.length) = True:=eq_true (by omega); (try rw [show ((0 : Int)).toNat = 0 from rfl] at hx255_0); (try rw [show 0 * 5 = 0 from rfl] at hx255_0); (try rw [Addr.add_zero'] at hx255_0); (try rw [show ((0 : Int)).toNat = 0 from rfl] at hx255_1); (try rw [show 0 * 5 = 0 from rfl] at hx255_1); (try rw [Addr.add_zero'] at hx255_1); (try rw [show ((0 : Int)).toNat = 0 from rfl] at hx255_2); (try rw [show 0 * 5 = 0 from rfl] at hx255_2); (try rw [Addr.add_zero'] at hx255_2); (try rw [show ((0 : Int)).toNat = 0 from rfl] at hx255_3); (try rw [show 0 * 5 = 0 from rfl] at hx255_3); (try rw [Addr.add_zero'] at hx255_3); (try rw [show ((0 : Int)).toNat = 0 from rfl] at hx255_4); (try rw [show 0 * 5 = 0 from rfl] at hx255_4); (try rw [Addr.add_zero'] at hx255_4); have HR255_1:=Aside0.mk hi255_1; have HC255_1:=Aside0.mk hl255_1; clear hi255_1 hl255_1; have HR255_2:=Aside0.mk hi255_2; have HC255_2:=Aside0.mk hl255_2; clear hi255_2 hl255_2; have HR255_3:=Aside0.mk hi255_3; have HC255_3:=Aside0.mk hl255_3; clear hi255_3 hl255_3; have HR255_4:=Aside0.mk hi255_4; have HC255_4:=Aside0.mk hl255_4; clear hi255_4 hl255_4; replace p255:=eq_true p255; replace q255:=eq_true q255; have ea_:=Option.some.inj (hx251_1.symm.trans hx255_1)
         injection ea_ with ea_ en_ ec_
         subst ea_; subst ec_; clear en_; have ea_:=Option.some.inj (hx251_2.symm.trans hx255_2)
         injection ea_ with ea_ en_ ec_
         subst ea_; subst ec_; clear en_; have ea_:=Option.some.inj (hx251_3.symm.trans hx255_3)
         injection ea_ with ea_ en_ ec_
         subst ea_; subst ec_; clear en_; have ea_:=Option.some.inj (hx251_4.symm.trans hx255_4)
         injection ea_ with ea_ en_ ec_
         subst ea_; subst ec_; clear en_; have hpt255 : ptrOf (.slice (some ad251) l0.length c0) = .pointer (some ad251):=ptrOf_pos _ _ _ (Qt); have p256 : 0≤((ji9) : Int):=Qt; have q256 : (ji9) < (((rd_T82 l0 0).f1).length : Int):=Qt; obtain ⟨ad256,e256,hx256_0⟩:=Kd.at_int HR255_1.out (ji9) p256 q256; cases e256; replace p256:=eq_true p256; replace q256:=eq_true q256
         go_wp2
         (repeat (go_quiet (fail); try go_wp2))
         go_ret
         exact ⟨by first | rfl | (simp; done) | (simp only [← hji7,← hji9] <;> (first | rfl | simp)) | (simp [*]; done),by repeat (first | exact Drawn0.refl _ | apply Drawn0.step)⟩
       (· (rw [if_neg c10] at H; exact absurd H (by simp)))
      (· (rw [if_neg c8] at H; exact absurd H (by simp)))
     ·rw [if_neg c6] at H
      have c6b0 : decide ((wrap64 (a2 + x7_1)) < (((rd_T82 l0 0).f1).length : Int)) = false:=decide_eq_false c6; clear c6; obtain rfl:=Option.some.inj H; have p251 : 0≤(0 : Int):=(by omega); have q251 : 0 < (l0.length : Int):=Qt; obtain ⟨ad251,A251_1,c251_1,A251_2,c251_2,A251_3,c251_3,A251_4,c251_4,e251,hx251_0,hx251_1,hx251_2,hx251_3,hx251_4,hl251_1,hi251_1,hl251_2,hi251_2,hl251_3,hi251_3,hl251_4,hi251_4⟩:=at_T82 HR0.out 0 p251 q251; cases e251; have qi251 : (0 < l0.length) = True:=eq_true (by omega); (try rw [show ((0 : Int)).toNat = 0 from rfl] at hx251_0); (try rw [show 0 * 5 = 0 from rfl] at hx251_0); (try rw [Addr.add_zero'] at hx251_0); (try rw [show ((0 : Int)).toNat = 0 from rfl] at hx251_1); (try rw [show 0 * 5 = 0 from rfl] at hx251_1); (try rw [Addr.add_zero'] at hx251_1); (try rw [show ((0 : Int)).toNat = 0 from rfl] at hx251_2); (try rw [show 0 * 5 = 0 from rfl] at hx251_2); (try rw [Addr.add_zero'] at hx251_2); (try rw [show ((0 : Int)).toNat = 0 from rfl] at hx251_3); (try rw [show 0 * 5 = 0 from rfl] at hx251_3); (try rw [Addr.add_zero'] at hx251_3); (try rw [show ((0 : Int)).toNat = 0 from rfl] at hx251_4); (try rw [show 0 * 5 = 0 from rfl] at hx251_4); (try rw [Addr.add_zero'] at hx251_4); have HR251_1:=Aside0.mk hi251_1; have HC251_1:=Aside0.mk hl251_1; clear hi251_1 hl251_1; have HR251_2:=Aside0.mk hi251_2; have HC251_2:=Aside0.mk hl251_2; clear hi251_2 hl251_2; have HR251_3:=Aside0.mk hi251_3; have HC251_3:=Aside0.mk hl251_3; clear hi251_3 hl251_3; have HR251_4:=Aside0.mk hi251_4; have HC251_4:=Aside0.mk hl251_4; clear hi251_4 hl251_4; replace p251:=eq_true p251; replace q251:=eq_true q251; have hpt251 : ptrOf (.slice (some ad251) l0.length c0) = .pointer (some ad251):=ptrOf_pos _ _ _ (Qt); have p252 : 0≤(0 : Int):=(by omega); have q252 : 0 < (l0.length : Int):=Qt; obtain ⟨ad252,A252_1,c252_1,A252_2,c252_2,A252_3,c252_3,A252_4,c252_4,e252,hx252_0,hx252_1,hx252_2,hx252_3,hx252_4,hl252_1,hi252_1,hl252_2,hi252_2,hl252_3,hi252_3,hl252_4,hi252_4⟩:=at_T82 HR0.out 0 p252 q252; obtain rfl : ad251 = ad252:=(by injection e252); have qi252 : (0 < l0.length) = True:=eq_true (by omega); (try rw [show ((0 : Int)).toNat = 0 from rfl] at hx252_0); (try rw [show 0 * 5 = 0 from rfl] at hx252_0); (try rw [Addr.add_zero'] at hx252_0); (try rw [show ((0 : Int)).toNat = 0 from rfl] at hx252_1); (try rw [show 0 * 5 = 0 from rfl] at hx252_1); (try rw [Addr.add_zero'] at hx252_1); (try rw [show ((0 : Int)).toNat = 0 from rfl] at hx252_2); (try rw [show 0 * 5 = 0 from rfl] at hx252_2); (try rw [Addr.add_zero'] at hx252_2); (try rw [show ((0 : Int)).toNat = 0 from rfl] at hx252_3); (try rw [show 0 * 5 = 0 from rfl] at hx252_3); (try rw [Addr.add_zero'] at hx252_3); (try rw [show ((0 : Int)).toNat = 0 from rfl] at hx252_4); (try rw [show 0 * 5 = 0 from rfl] at hx252_4); (try rw [Addr.add_zero'] at hx252_4); have HR252_1:=Aside0.mk hi252_1; have HC252_1:=Aside0.mk hl252_1; clear hi252_1 hl252_1; have HR252_2:=Aside0.mk hi252_2; have HC252_2:=Aside0.mk hl252_2; clear hi252_2 hl252_2; have HR252_3:=Aside0.mk hi252_3; have HC252_3:=Aside0.mk hl252_3; clear hi252_3 hl252_3; have HR252_4:=Aside0.mk hi252_4; have HC252_4:=Aside0.mk hl252_4; clear hi252_4 hl252_4; replace p252:=eq_true p252; replace q252:=eq_true q252; have ea_:=Option.some.inj (hx251_1.symm.trans hx252_1)
      injection ea_ with ea_ en_ ec_
      subst ea_; subst ec_; clear en_; have ea_:=Option.some.inj (hx251_2.symm.trans hx252_2)
      injection ea_ with ea_ en_ ec_
      subst ea_; subst ec_; clear en_; have ea_:=Option.some.inj (hx251_3.symm.trans hx252_3)
      injection ea_ with ea_ en_ ec_
      subst ea_; subst ec_; clear en_; have ea_:=Option.some.inj (hx251_4.symm.trans hx252_4)
      injection ea_ with ea_ en_ ec_
      subst ea_; subst ec_; clear en_; have hpt252 : ptrOf (.slice (some ad251) l0.length c0) = .pointer (some ad251):=ptrOf_pos _ _ _ (Qt)
      go_wp2
      (repeat (go_quiet (fail); try go_wp2))
      go_ret
      exact ⟨rfl,by repeat (first | exact Drawn0.refl _ | apply Drawn0.step)⟩
    ·rw [if_neg c5] at H
     have c5b0 : decide ((wrap64 (a1 + x7_1)) < (((rd_T82 l0 0).f1).length : Int)) = false:=decide_eq_false c5; clear c5; obtain rfl:=Option.some.inj H; have p251 : 0≤(0 : Int):=(by omega); have q251 : 0 < (l0.length : Int):=Qt; obtain ⟨ad251,A251_1,c251_1,A251_2,c251_2,A251_3,c251_3,A251_4,c251_4,e251,hx251_0,hx251_1,hx251_2,hx251_3,hx251_4,hl251_1,hi251_1,hl251_2,hi251_2,hl251_3,hi251_3,hl251_4,hi251_4⟩:=at_T82 HR0.out 0 p251 q251; cases e251; have qi251 : (0 < l0.length) = True:=eq_true (by omega); (try rw [show ((0 : Int)).toNat = 0 from rfl] at hx251_0); (try rw [show 0 * 5 = 0 from rfl] at hx251_0); (try rw [Addr.add_zero'] at hx251_0); (try rw [show ((0 : Int)).toNat = 0 from rfl] at hx251_1); (try rw [show 0 * 5 = 0 from rfl] at hx251_1); (try rw [Addr.add_zero'] at hx251_1); (try rw [show ((0 : Int)).toNat = 0 from rfl] at hx251_2); (try rw [show 0 * 5 = 0 from rfl] at hx251_2); (try rw [Addr.add_zero'] at hx251_2); (try rw [show ((0 : Int)).toNat = 0 from rfl] at hx251_3); (try rw [show 0 * 5 = 0 from rfl] at hx251_3); (try rw [Addr.add_zero'] at hx251_3); (try rw [show ((0 : Int)).toNat = 0 from rfl] at hx251_4); (try rw [show 0 * 5 = 0 from rfl] at hx251_4); (try rw [Addr.add_zero'] at hx251_4); have HR251_1:=Aside0.mk hi251_1; have HC251_1:=Aside0.mk hl251_1; clear hi251_1 hl251_1; have HR251_2:=Aside0.mk hi251_2; have HC251_2:=Aside0.mk hl251_2; clear hi251_2 hl251_2; have HR251_3:=Aside0.mk hi251_3; have HC251_3:=Aside0.mk hl251_3; clear hi251_3 hl251_3; have HR251_4:=Aside0.mk hi251_4; have HC251_4:=Aside0.mk hl251_4; clear hi251_4 hl251_4; replace p251:=eq_true p251; replace q251:=eq_true q251; have hpt251 : ptrOf (.slice (some ad251) l0.length c0) = .pointer (some ad251):=ptrOf_pos _ _ _ (Qt)
     go_wp2
     (repeat (go_quiet (fail); try go_wp2))
     go_ret
     exact ⟨rfl,by repeat (first | exact Drawn0.refl _ | apply Drawn0.step)⟩
   (· (rw [if_neg c4] at H; exact absurd H (by simp)))

end Go.Proofs.Ythcnnfahlhklgaa.X
