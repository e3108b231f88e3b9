-- Printed by wip/xprint.py of this repo (a wrapper of the session's own round the print).
import Derived.Test.YthcnnfahlhklgaaXx0
import Derived.Test.YthcnnfahlhklgaaXBA
import Derived.Test.YthcnnfahlhklgaaXx4
namespace Go.Proofs.Ythcnnfahlhklgaa.X
open Go.RowKit Go.Proofs.YthcnnfahlhklgaaW.PrintWords Go.Proofs.YthcnnfahlhklgaaW.PrintLast Go.Proofs.YthcnnfahlhklgaaW.PrintMore
attribute [local go_sem] ptrOf_eql ptrOf_neq ptrOf_eqg ptrOf_neg str_leq str_geq str_gtr max2_int min2_int max_two min_two max_three min_three max_four min_four   -- for this text's walks alone
set_option linter.unusedVariables false
set_option linter.unusedSimpArgs false

/-! ### sais_same: function 86 -/
mutual
def sais_same.l0 : Nat→List Int→List Bool→Int→Int→Int→Int→Option (Bool)
 | 0,_,_,_,_,_,_=>none
 | k + 1,x0,x1,x2,x3,x9,x10=>if (wrap64 (x2 + x10)) ≥ x9 then (sais_same.j1 k x0 x1 x2 x3 x9 x10 (wrap64 (x2 + x10)) (wrap64 (x3 + x10)) true) else (sais_same.j1 k x0 x1 x2 x3 x9 x10 (wrap64 (x2 + x10)) (wrap64 (x3 + x10)) (decide ((wrap64 (x3 + x10)) ≥ x9)))
def sais_same.j1 : Nat→List Int→List Bool→Int→Int→Int→Int→Int→Int→Bool→Option (Bool)
 | 0,_,_,_,_,_,_,_,_,_=>none
 | k + 1,x0,x1,x2,x3,x9,x10,x11,x12,x30=>if x30 = true then (some false) else (if 0≤x11 then (if x11 < (x0.length : Int) then (if 0≤x12 then (if x12 < (x0.length : Int) then (if (rd x0 x11) = (rd x0 x12) then (if x11 < (x1.length : Int) then (if x12 < (x1.length : Int) then (sais_same.j2 k x0 x1 x2 x3 x9 x10 x11 x12 ((rdOf false x1 x11) != (rdOf false x1 x12))) else (none)) else (none)) else (sais_same.j2 k x0 x1 x2 x3 x9 x10 x11 x12 true)) else (none)) else (none)) else (none)) else (none))
def sais_same.j2 : Nat→List Int→List Bool→Int→Int→Int→Int→Int→Int→Bool→Option (Bool)
 | 0,_,_,_,_,_,_,_,_,_=>none
 | k + 1,x0,x1,x2,x3,x9,x10,x11,x12,x50=>if x50 = true then (some false) else (if x10 > 0 then ((sais_isTurn.f x1 x11).bind fun t189=>(if t189 = true then (sais_same.j3 k x0 x1 x2 x3 x9 x10 x11 x12 true) else ((sais_isTurn.f x1 x12).bind fun t190=>(sais_same.j3 k x0 x1 x2 x3 x9 x10 x11 x12 t190)))) else (sais_same.j3 k x0 x1 x2 x3 x9 x10 x11 x12 false))
def sais_same.j3 : Nat→List Int→List Bool→Int→Int→Int→Int→Int→Int→Bool→Option (Bool)
 | 0,_,_,_,_,_,_,_,_,_=>none
 | k + 1,x0,x1,x2,x3,x9,x10,x11,x12,x62=>if x62 = true then ((sais_isTurn.f x1 x11).bind fun t191=>(if t191 = true then ((sais_isTurn.f x1 x12).bind fun t192=>(some t192)) else (some false))) else (sais_same.l0 k x0 x1 x2 x3 x9 (wrap64 (x10 + 1)))
end
def sais_same.f (k : Nat) (l0 : List Int) (l1 : List Bool) (a2 : Int) (a3 : Int) : Option (Bool):=sais_same.l0 k l0 l1 a2 a3 (l0.length : Int) 0
theorem sais_same.mono_l : ∀ k,(∀ y0 y1 y2 y3 y4 y5,LeO (sais_same.l0 k y0 y1 y2 y3 y4 y5) (sais_same.l0 (k + 1) y0 y1 y2 y3 y4 y5))∧(∀ y0 y1 y2 y3 y4 y5 y6 y7 y8,LeO (sais_same.j1 k y0 y1 y2 y3 y4 y5 y6 y7 y8) (sais_same.j1 (k + 1) y0 y1 y2 y3 y4 y5 y6 y7 y8))∧(∀ y0 y1 y2 y3 y4 y5 y6 y7 y8,LeO (sais_same.j2 k y0 y1 y2 y3 y4 y5 y6 y7 y8) (sais_same.j2 (k + 1) y0 y1 y2 y3 y4 y5 y6 y7 y8))∧(∀ y0 y1 y2 y3 y4 y5 y6 y7 y8,LeO (sais_same.j3 k y0 y1 y2 y3 y4 y5 y6 y7 y8) (sais_same.j3 (k + 1) y0 y1 y2 y3 y4 y5 y6 y7 y8))
 | 0=>⟨fun _ _ _ _ _ _ r h=>by simp [sais_same.l0] at h,fun _ _ _ _ _ _ _ _ _ r h=>by simp [sais_same.j1] at h,fun _ _ _ _ _ _ _ _ _ r h=>by simp [sais_same.j2] at h,fun _ _ _ _ _ _ _ _ _ r h=>by simp [sais_same.j3] at h⟩
 | k + 1=>by
  obtain ⟨ih0,ih1,ih2,ih3⟩:=sais_same.mono_l k
  refine ⟨?_,?_,?_,?_⟩
  intro y0 y1 y2 y3 y4 y5; unfold sais_same.l0; rotate_left
  intro y0 y1 y2 y3 y4 y5 y6 y7 y8; unfold sais_same.j1; rotate_left
  intro y0 y1 y2 y3 y4 y5 y6 y7 y8; unfold sais_same.j2; rotate_left
  intro y0 y1 y2 y3 y4 y5 y6 y7 y8; unfold sais_same.j3; rotate_left
  all_goals
   repeat' first
   | (with_reducible exact ih0 _ _ _ _ _ _)
   | (with_reducible exact ih1 _ _ _ _ _ _ _ _ _)
   | (with_reducible exact ih2 _ _ _ _ _ _ _ _ _)
   | (with_reducible exact ih3 _ _ _ _ _ _ _ _ _)
   | (with_reducible exact LeO.refl _)
   | (with_reducible exact LeO.none _)
   | (with_reducible refine LeO.ite ?_ ?_)
   | (with_reducible refine LeO.bind ?_ (fun _=>?_))
   | exact ih0 _ _ _ _ _ _
   | exact ih1 _ _ _ _ _ _ _ _ _
   | exact ih2 _ _ _ _ _ _ _ _ _
   | exact ih3 _ _ _ _ _ _ _ _ _
   | exact LeO.none _
   | refine LeO.ite ?_ ?_
   | refine LeO.bind ?_ (fun _=>?_)
theorem sais_same.mono : ∀ a0 a1 a2 a3 k,LeO (sais_same.f k a0 a1 a2 a3) (sais_same.f (k + 1) a0 a1 a2 a3):=by
 intro a0 a1 a2 a3 k
 obtain ⟨ih0,ih1,ih2,ih3⟩:=sais_same.mono_l k
 unfold sais_same.f
 repeat' first
   | (with_reducible exact ih0 _ _ _ _ _ _)
   | (with_reducible exact ih1 _ _ _ _ _ _ _ _ _)
   | (with_reducible exact ih2 _ _ _ _ _ _ _ _ _)
   | (with_reducible exact ih3 _ _ _ _ _ _ _ _ _)
   | (with_reducible exact LeO.refl _)
   | (with_reducible exact LeO.none _)
   | (with_reducible refine LeO.ite ?_ ?_)
   | (with_reducible refine LeO.bind ?_ (fun _=>?_))
   | exact ih0 _ _ _ _ _ _
   | exact ih1 _ _ _ _ _ _ _ _ _
   | exact ih2 _ _ _ _ _ _ _ _ _
   | exact ih3 _ _ _ _ _ _ _ _ _
   | exact LeO.none _
   | refine LeO.ite ?_ ?_
   | refine LeO.bind ?_ (fun _=>?_)
set_option maxHeartbeats 8000000 in
set_option maxRecDepth 100000 in
theorem sais_same.calls (k : Nat) (A0 : Option Addr) (c0 : Nat) (l0 : List Int) (A1 : Option Addr) (c1 : Nat) (l1 : List Bool) (a2 : Int) (a3 : Int) (r : Bool) (w : World) (hr0 : Kd.C (Kd.int .i64) w A0 l0.length l0) (hc0 : l0.length≤c0) (hr1 : Kd.C Kd.bool w A1 l1.length l1) (hc1 : l1.length≤c1) (h : sais_same.f k l0 l1 a2 a3 = some r) :
  Calls Try.prog 86 #[.slice A0 l0.length c0,.slice A1 l1.length c1,.int .i64 a2,.int .i64 a3] w fun e w'=>e = .returned (.bool r)∧Drawn0 w w':=by
 have HR0:=Aside0.mk hr0; have HC0:=Aside0.mk hc0; clear hr0 hc0; have HR1:=Aside0.mk hr1; have HC1:=Aside0.mk hc1; clear hr1 hc1; have H : (sais_same.l0 k l0 l1 a2 a3 (l0.length : Int) 0) = some r:=h; clear h; have H':=Aside0.mk H; clear H
 go_enter Try.func86,Try.ntmps86
 go_wp2
 (repeat (go_quiet (fail); try go_wp2))
 go_loopg [10] k (fun kq v10 w'=>∃ (x10_1 : Int),v10 = .int .i64 x10_1∧Aside0 (sais_same.l0 kq l0 l1 a2 a3 (l0.length : Int) x10_1 = some r)∧Aside0 (kq≤k)∧Drawn0 w w')
 case atStart=>exact ⟨(0),(rfl),H',⟨Nat.le_refl _⟩,by repeat (first | exact Drawn0.refl _ | apply Drawn0.step)⟩
 case round =>
  clear H'; obtain ⟨x10_1,rfl,HA,HK1,⟨m1,rfl⟩⟩:=hrel
  cases gk with
  | zero=>exact absurd HA.out (by simp [sais_same.l0])
  | succ k1 =>
   have H:=HA.out; clear HA; simp only [sais_same.l0] at H; have HC5:=Aside0.mk H; clear H
   go_upto_region 5 with (fail)
   (repeat (go_quiet (fail); go_upto_region 5 with (fail)))
   go_cut [30] (fun v30 wc=>∃ (kq : Nat) (x30_4 : Bool),v30 = .bool x30_4∧Aside0 (sais_same.j1 kq l0 l1 a2 a3 (l0.length : Int) x10_1 (wrap64 (a2 + x10_1)) (wrap64 (a3 + x10_1)) x30_4 = some r)∧Aside0 (kq≤k1)∧Drawn0 w wc)
   case first =>
    have H:=HC5.out; clear HC5
    by_cases c6 : (wrap64 (a2 + x10_1)) ≥ (l0.length : Int)
    ·rw [if_pos c6] at H
     have c6b0 : decide ((l0.length : Int)≤(wrap64 (a2 + x10_1))) = true:=decide_eq_true c6; clear c6
     (first | rw [c6b0] | rw [c6b1] | (simp only [i64_w,i32_w]; rw [c6b0]) | skip)
     have H':=Aside0.mk H; clear H
     go_wp2
     (repeat (go_quiet (fail); try go_wp2))
     go_meet
     case rel=>exact ⟨_,(true),(rfl),H',⟨by have:=HK1.out; first | omega | exact Nat.le_refl _⟩,by repeat (first | exact Drawn0.refl _ | apply Drawn0.step)⟩
    ·rw [if_neg c6] at H
     have c6b0 : decide ((l0.length : Int)≤(wrap64 (a2 + x10_1))) = false:=decide_eq_false c6; clear c6
     (first | rw [c6b0] | rw [c6b1] | (simp only [i64_w,i32_w]; rw [c6b0]) | skip)
     have H':=Aside0.mk H; clear H
     go_wp2
     (repeat (go_quiet (fail); try go_wp2))
     go_meet
     case rel=>exact ⟨_,(decide ((wrap64 (a3 + x10_1)) ≥ (l0.length : Int))),(rfl),H',⟨by have:=HK1.out; first | omega | exact Nat.le_refl _⟩,by repeat (first | exact Drawn0.refl _ | apply Drawn0.step)⟩
   case rest =>
    clear HC5; obtain ⟨kq,x30_4,rfl,HA,HJ4,⟨mc4,rfl⟩⟩:=hcut
    cases kq with
    | zero=>exact absurd HA.out (by simp [sais_same.j1])
    | succ kj4 =>
     have H:=HA.out; clear HA; simp only [sais_same.j1] at H
     by_cases c7 : x30_4 = true
     ·subst c7
      have H1 : (some false) = some r:=by rw [if_pos rfl] at H; exact H
      clear H; have H:=H1; clear H1; obtain rfl:=Option.some.inj H
      go_wp2
      (repeat (go_quiet (fail); try go_wp2))
      go_ret
      exact ⟨rfl,by repeat (first | exact Drawn0.refl _ | apply Drawn0.step)⟩
     ·replace c7:=Bool.eq_false_iff.mpr c7
      subst c7
      have H1 : (if 0≤(wrap64 (a2 + x10_1)) then (if (wrap64 (a2 + x10_1)) < (l0.length : Int) then (if 0≤(wrap64 (a3 + x10_1)) then (if (wrap64 (a3 + x10_1)) < (l0.length : Int) then (if (rd l0 (wrap64 (a2 + x10_1))) = (rd l0 (wrap64 (a3 + x10_1))) then (if (wrap64 (a2 + x10_1)) < (l1.length : Int) then (if (wrap64 (a3 + x10_1)) < (l1.length : Int) then (sais_same.j2 kj4 l0 l1 a2 a3 (l0.length : Int) x10_1 (wrap64 (a2 + x10_1)) (wrap64 (a3 + x10_1)) ((rdOf false l1 (wrap64 (a2 + x10_1))) != (rdOf false l1 (wrap64 (a3 + x10_1))))) else (none)) else (none)) else (sais_same.j2 kj4 l0 l1 a2 a3 (l0.length : Int) x10_1 (wrap64 (a2 + x10_1)) (wrap64 (a3 + x10_1)) true)) else (none)) else (none)) else (none)) else (none)) = some r:=by rw [if_neg (show ¬ (false = true) by decide)] at H; exact H
      clear H; have H:=H1; clear H1; have HC8:=Aside0.mk H; clear H
      go_upto_region 7 with (fail)
      (repeat (go_quiet (fail); go_upto_region 7 with (fail)))
      go_cut [50] (fun v50 wc=>∃ (kq : Nat) (x50_7 : Bool),v50 = .bool x50_7∧Aside0 (sais_same.j2 kq l0 l1 a2 a3 (l0.length : Int) x10_1 (wrap64 (a2 + x10_1)) (wrap64 (a3 + x10_1)) x50_7 = some r)∧Aside0 (kq≤kj4)∧Drawn0 w wc)
      case first =>
       have H:=HC8.out; clear HC8; obtain ⟨ji9,hji9⟩ : ∃ j_ : Int,(wrap64 (a2 + x10_1)) = j_:=⟨_,rfl⟩
       replace H : (if 0≤(ji9) then (if (ji9) < (l0.length : Int) then (if 0≤(wrap64 (a3 + x10_1)) then (if (wrap64 (a3 + x10_1)) < (l0.length : Int) then (if (rd l0 (ji9)) = (rd l0 (wrap64 (a3 + x10_1))) then (if (ji9) < (l1.length : Int) then (if (wrap64 (a3 + x10_1)) < (l1.length : Int) then (sais_same.j2 kj4 l0 l1 a2 a3 (l0.length : Int) x10_1 (ji9) (wrap64 (a3 + x10_1)) ((rdOf false l1 (ji9)) != (rdOf false l1 (wrap64 (a3 + x10_1))))) else (none)) else (none)) else (sais_same.j2 kj4 l0 l1 a2 a3 (l0.length : Int) x10_1 (ji9) (wrap64 (a3 + x10_1)) true)) else (none)) else (none)) else (none)) else (none)) = some r:=by first | (rw [hji9] at H; exact H) | (simp only [hji9] at H ⊢; exact H)
       have hji9w : (IntKind.i64.wrap (a2 + x10_1)) = ji9:=(i64_w _).trans hji9
       by_cases c10 : 0≤(ji9)
       ·rw [if_pos c10] at H
        have c10b0 : decide (0≤(ji9)) = true:=decide_eq_true c10; clear c10
        (first | rw [c10b0] | rw [c10b1] | (simp only [i64_w,i32_w]; rw [c10b0]) | skip)
        by_cases c11 : (ji9) < (l0.length : Int)
        ·rw [if_pos c11] at H
         have c11b0 : decide ((ji9) < (l0.length : Int)) = true:=decide_eq_true c11; clear c11; obtain ⟨ji12,hji12⟩ : ∃ j_ : Int,(wrap64 (a3 + x10_1)) = j_:=⟨_,rfl⟩
         replace H : (if 0≤(ji12) then (if (ji12) < (l0.length : Int) then (if (rd l0 (ji9)) = (rd l0 (ji12)) then (if (ji9) < (l1.length : Int) then (if (ji12) < (l1.length : Int) then (sais_same.j2 kj4 l0 l1 a2 a3 (l0.length : Int) x10_1 (ji9) (ji12) ((rdOf false l1 (ji9)) != (rdOf false l1 (ji12)))) else (none)) else (none)) else (sais_same.j2 kj4 l0 l1 a2 a3 (l0.length : Int) x10_1 (ji9) (ji12) true)) else (none)) else (none)) = some r:=by first | (rw [hji12] at H; exact H) | (simp only [hji12] at H ⊢; exact H)
         have hji12w : (IntKind.i64.wrap (a3 + x10_1)) = ji12:=(i64_w _).trans hji12
         by_cases c13 : 0≤(ji12)
         ·rw [if_pos c13] at H
          have c13b0 : decide (0≤(ji12)) = true:=decide_eq_true c13; clear c13
          by_cases c14 : (ji12) < (l0.length : Int)
          ·rw [if_pos c14] at H
           have c14b0 : decide ((ji12) < (l0.length : Int)) = true:=decide_eq_true c14; clear c14
           by_cases c15 : (rd l0 (ji9)) = (rd l0 (ji12))
           ·rw [if_pos c15] at H
            have c15b0 : ((rd l0 (ji9)) == (rd l0 (ji12))) = true:=beq_iff_eq.mpr c15; have c15b1 : ((rd l0 (ji9)) != (rd l0 (ji12))) = false:=bne_eq_false_iff_eq.mpr c15; clear c15
            by_cases c16 : (ji9) < (l1.length : Int)
            ·rw [if_pos c16] at H
             have c16b0 : decide ((ji9) < (l1.length : Int)) = true:=decide_eq_true c16; clear c16
             by_cases c17 : (ji12) < (l1.length : Int)
             ·rw [if_pos c17] at H
              have c17b0 : decide ((ji12) < (l1.length : Int)) = true:=decide_eq_true c17; clear c17; have H':=Aside0.mk H; clear H; have p185 : 0≤((ji9) : Int):=Qt; have q185 : (ji9) < (l0.length : Int):=Qt; obtain ⟨ad185,e185,hx185_0⟩:=Kd.at_int HR0.out (ji9) p185 q185; cases e185; replace p185:=eq_true p185; replace q185:=eq_true q185; have p186 : 0≤((ji12) : Int):=Qt; have q186 : (ji12) < (l0.length : Int):=Qt; obtain ⟨ad186,e186,hx186_0⟩:=Kd.at_int HR0.out (ji12) p186 q186; obtain rfl : ad185 = ad186:=(by injection e186); replace p186:=eq_true p186; replace q186:=eq_true q186; have p187 : 0≤((ji9) : Int):=Qt; have q187 : (ji9) < (l1.length : Int):=Qt; obtain ⟨ad187,e187,hx187_0⟩:=Kd.at_bool HR1.out (ji9) p187 q187; cases e187; replace p187:=eq_true p187; replace q187:=eq_true q187; have p188 : 0≤((ji12) : Int):=Qt; have q188 : (ji12) < (l1.length : Int):=Qt; obtain ⟨ad188,e188,hx188_0⟩:=Kd.at_bool HR1.out (ji12) p188 q188; obtain rfl : ad187 = ad188:=(by injection e188); replace p188:=eq_true p188; replace q188:=eq_true q188
              go_wp2
              (repeat (go_quiet (fail); try go_wp2)); (try simp only [← hji9,← hji12])
              go_meet
              case rel=>exact ⟨_,(((rdOf false l1 (ji9)) != (rdOf false l1 (ji12)))),(by first | rfl | (simp; done) | (simp only [← hji9,← hji12] <;> (first | rfl | simp)) | (simp [*]; done)),(by first | exact H' | (simp only [hji9,hji12]; exact H')),⟨by have:=HK1.out; have:=HJ4.out; first | omega | exact Nat.le_refl _⟩,by repeat (first | exact Drawn0.refl _ | apply Drawn0.step)⟩
             (· (rw [if_neg c17] at H; exact absurd H (by simp)))
            (· (rw [if_neg c16] at H; exact absurd H (by simp)))
           ·rw [if_neg c15] at H
            have c15b0 : ((rd l0 (ji9)) == (rd l0 (ji12))) = false:=beq_eq_false_iff_ne.mpr c15; have c15b1 : ((rd l0 (ji9)) != (rd l0 (ji12))) = true:=bne_iff_ne.mpr c15; have H':=Aside0.mk H; clear H; have p185 : 0≤((ji9) : Int):=Qt; have q185 : (ji9) < (l0.length : Int):=Qt; obtain ⟨ad185,e185,hx185_0⟩:=Kd.at_int HR0.out (ji9) p185 q185; cases e185; replace p185:=eq_true p185; replace q185:=eq_true q185; have p186 : 0≤((ji12) : Int):=Qt; have q186 : (ji12) < (l0.length : Int):=Qt; obtain ⟨ad186,e186,hx186_0⟩:=Kd.at_int HR0.out (ji12) p186 q186; obtain rfl : ad185 = ad186:=(by injection e186); replace p186:=eq_true p186; replace q186:=eq_true q186
            go_wp2
            (repeat (go_quiet (fail); try go_wp2)); (try simp only [← hji9,← hji12])
            go_meet
            case rel=>exact ⟨_,(true),(rfl),(by first | exact H' | (simp only [hji9,hji12]; exact H')),⟨by have:=HK1.out; have:=HJ4.out; first | omega | exact Nat.le_refl _⟩,by repeat (first | exact Drawn0.refl _ | apply Drawn0.step)⟩
          (· (rw [if_neg c14] at H; exact absurd H (by simp)))
         (· (rw [if_neg c13] at H; exact absurd H (by simp)))
        (· (rw [if_neg c11] at H; exact absurd H (by simp)))
       (· (rw [if_neg c10] at H; exact absurd H (by simp)))
      case rest =>
       clear HC8; obtain ⟨kq,x50_7,rfl,HA,HJ7,⟨mc7,rfl⟩⟩:=hcut
       cases kq with
       | zero=>exact absurd HA.out (by simp [sais_same.j2])
       | succ kj7 =>
        have H:=HA.out; clear HA; simp only [sais_same.j2] at H
        by_cases c18 : x50_7 = true
        ·subst c18
         have H1 : (some false) = some r:=by rw [if_pos rfl] at H; exact H
         clear H; have H:=H1; clear H1; obtain rfl:=Option.some.inj H
         go_wp2
         (repeat (go_quiet (fail); try go_wp2))
         go_ret
         exact ⟨rfl,by repeat (first | exact Drawn0.refl _ | apply Drawn0.step)⟩
        ·replace c18:=Bool.eq_false_iff.mpr c18
         subst c18
         have H1 : (if x10_1 > 0 then ((sais_isTurn.f l1 (wrap64 (a2 + x10_1))).bind fun t189=>(if t189 = true then (sais_same.j3 kj7 l0 l1 a2 a3 (l0.length : Int) x10_1 (wrap64 (a2 + x10_1)) (wrap64 (a3 + x10_1)) true) else ((sais_isTurn.f l1 (wrap64 (a3 + x10_1))).bind fun t190=>(sais_same.j3 kj7 l0 l1 a2 a3 (l0.length : Int) x10_1 (wrap64 (a2 + x10_1)) (wrap64 (a3 + x10_1)) t190)))) else (sais_same.j3 kj7 l0 l1 a2 a3 (l0.length : Int) x10_1 (wrap64 (a2 + x10_1)) (wrap64 (a3 + x10_1)) false)) = some r:=by rw [if_neg (show ¬ (false = true) by decide)] at H; exact H
         clear H; have H:=H1; clear H1; have HC19:=Aside0.mk H; clear H
         go_upto_region 9 with (fail)
         (repeat (go_quiet (fail); go_upto_region 9 with (fail)))
         go_cut [62] (fun v62 wc=>∃ (kq : Nat) (x62_18 : Bool),v62 = .bool x62_18∧Aside0 (sais_same.j3 kq l0 l1 a2 a3 (l0.length : Int) x10_1 (wrap64 (a2 + x10_1)) (wrap64 (a3 + x10_1)) x62_18 = some r)∧Aside0 (kq≤kj7)∧Drawn0 w wc)
         case first =>
          have H:=HC19.out; clear HC19
          by_cases c20 : x10_1 > 0
          ·rw [if_pos c20] at H
           have c20b0 : decide (0 < x10_1) = true:=decide_eq_true c20; clear c20
           (first | rw [c20b0] | rw [c20b1] | (simp only [i64_w,i32_w]; rw [c20b0]) | skip)
           replace H:=Option.bind_eq_some_iff.mp H; obtain ⟨t189,A210,H⟩:=H; replace H : (if t189 = true then (sais_same.j3 kj7 l0 l1 a2 a3 (l0.length : Int) x10_1 (wrap64 (a2 + x10_1)) (wrap64 (a3 + x10_1)) true) else ((sais_isTurn.f l1 (wrap64 (a3 + x10_1))).bind fun t190=>(sais_same.j3 kj7 l0 l1 a2 a3 (l0.length : Int) x10_1 (wrap64 (a2 + x10_1)) (wrap64 (a3 + x10_1)) t190))) = some r:=H; have A21:=Aside0.mk A210; clear A210
           by_cases c22 : t189 = true
           ·subst c22
            have H1 : (sais_same.j3 kj7 l0 l1 a2 a3 (l0.length : Int) x10_1 (wrap64 (a2 + x10_1)) (wrap64 (a3 + x10_1)) true) = some r:=by rw [if_pos rfl] at H; exact H
            clear H; have H:=H1; clear H1; have H':=Aside0.mk H; clear H
            go_wp2_with (first | (go_at_call 85; (with_reducible refine (sais_isTurn.calls _ _ l1 (wrap64 (a2 + x10_1)) true _ ?side1 ?side2 A21.out).mono ?_); (case side1=>exact HR1.out); (case side2=>exact HC1.out); rintro e w' ⟨rfl,⟨nd,rfl⟩⟩; (try first | exact ⟨rfl,_,World.drewN_drewN _ _ _⟩ | exact ⟨rfl,_,Eq.trans (World.drewN_drewN _ _ _) (congrArg (World.drewN _) (Nat.add_assoc _ _ _))⟩)))
            (repeat (go_quiet (first | (go_at_call 85; (with_reducible refine (sais_isTurn.calls _ _ l1 (wrap64 (a2 + x10_1)) true _ ?side1 ?side2 A21.out).mono ?_); (case side1=>exact HR1.out); (case side2=>exact HC1.out); rintro e w' ⟨rfl,⟨nd,rfl⟩⟩; (try first | exact ⟨rfl,_,World.drewN_drewN _ _ _⟩ | exact ⟨rfl,_,Eq.trans (World.drewN_drewN _ _ _) (congrArg (World.drewN _) (Nat.add_assoc _ _ _))⟩))); try go_wp2_with (first | (go_at_call 85; (with_reducible refine (sais_isTurn.calls _ _ l1 (wrap64 (a2 + x10_1)) true _ ?side1 ?side2 A21.out).mono ?_); (case side1=>exact HR1.out); (case side2=>exact HC1.out); rintro e w' ⟨rfl,⟨nd,rfl⟩⟩; (try first | exact ⟨rfl,_,World.drewN_drewN _ _ _⟩ | exact ⟨rfl,_,Eq.trans (World.drewN_drewN _ _ _) (congrArg (World.drewN _) (Nat.add_assoc _ _ _))⟩)))))
            go_meet
            case rel=>exact ⟨_,(true),(rfl),H',⟨by have:=HK1.out; have:=HJ4.out; have:=HJ7.out; first | omega | exact Nat.le_refl _⟩,by repeat (first | exact Drawn0.refl _ | apply Drawn0.step)⟩
           ·replace c22:=Bool.eq_false_iff.mpr c22
            subst c22
            have H1 : ((sais_isTurn.f l1 (wrap64 (a3 + x10_1))).bind fun t190=>(sais_same.j3 kj7 l0 l1 a2 a3 (l0.length : Int) x10_1 (wrap64 (a2 + x10_1)) (wrap64 (a3 + x10_1)) t190)) = some r:=by rw [if_neg (show ¬ (false = true) by decide)] at H; exact H
            clear H; have H:=H1; clear H1; replace H:=Option.bind_eq_some_iff.mp H; obtain ⟨t190,A230,H⟩:=H; replace H : (sais_same.j3 kj7 l0 l1 a2 a3 (l0.length : Int) x10_1 (wrap64 (a2 + x10_1)) (wrap64 (a3 + x10_1)) t190) = some r:=H; have A23:=Aside0.mk A230; clear A230; have H':=Aside0.mk H; clear H
            go_wp2_with (first | (go_at_call 85; (with_reducible refine (sais_isTurn.calls _ _ l1 (wrap64 (a2 + x10_1)) false _ ?side1 ?side2 A21.out).mono ?_); (case side1=>exact HR1.out); (case side2=>exact HC1.out); rintro e w' ⟨rfl,⟨nd,rfl⟩⟩; (try first | exact ⟨rfl,_,World.drewN_drewN _ _ _⟩ | exact ⟨rfl,_,Eq.trans (World.drewN_drewN _ _ _) (congrArg (World.drewN _) (Nat.add_assoc _ _ _))⟩)) | (go_at_call 85; (with_reducible refine (sais_isTurn.calls _ _ l1 (wrap64 (a3 + x10_1)) t190 _ ?side1 ?side2 A23.out).mono ?_); (case side1=>exact HR1.out); (case side2=>exact HC1.out); rintro e w' ⟨rfl,⟨nd,rfl⟩⟩; (try first | exact ⟨rfl,_,World.drewN_drewN _ _ _⟩ | exact ⟨rfl,_,Eq.trans (World.drewN_drewN _ _ _) (congrArg (World.drewN _) (Nat.add_assoc _ _ _))⟩)))
            (repeat (go_quiet (first | (go_at_call 85; (with_reducible refine (sais_isTurn.calls _ _ l1 (wrap64 (a2 + x10_1)) false _ ?side1 ?side2 A21.out).mono ?_); (case side1=>exact HR1.out); (case side2=>exact HC1.out); rintro e w' ⟨rfl,⟨nd,rfl⟩⟩; (try first | exact ⟨rfl,_,World.drewN_drewN _ _ _⟩ | exact ⟨rfl,_,Eq.trans (World.drewN_drewN _ _ _) (congrArg (World.drewN _) (Nat.add_assoc _ _ _))⟩)) | (go_at_call 85; (with_reducible refine (sais_isTurn.calls _ _ l1 (wrap64 (a3 + x10_1)) t190 _ ?side1 ?side2 A23.out).mono ?_); (case side1=>exact HR1.out); (case side2=>exact HC1.out); rintro e w' ⟨rfl,⟨nd,rfl⟩⟩; (try first | exact ⟨rfl,_,World.drewN_drewN _ _ _⟩ | exact ⟨rfl,_,Eq.trans (World.drewN_drewN _ _ _) (congrArg (World.drewN _) (Nat.add_assoc _ _ _))⟩))); try go_wp2_with (first | (go_at_call 85; (with_reducible refine (sais_isTurn.calls _ _ l1 (wrap64 (a2 + x10_1)) false _ ?side1 ?side2 A21.out).mono ?_); (case side1=>exact HR1.out); (case side2=>exact HC1.out); rintro e w' ⟨rfl,⟨nd,rfl⟩⟩; (try first | exact ⟨rfl,_,World.drewN_drewN _ _ _⟩ | exact ⟨rfl,_,Eq.trans (World.drewN_drewN _ _ _) (congrArg (World.drewN _) (Nat.add_assoc _ _ _))⟩)) | (go_at_call 85; (with_reducible refine (sais_isTurn.calls _ _ l1 (wrap64 (a3 + x10_1)) t190 _ ?side1 ?side2 A23.out).mono ?_); (case side1=>exact HR1.out); (case side2=>exact HC1.out); rintro e w' ⟨rfl,⟨nd,rfl⟩⟩; (try first | exact ⟨rfl,_,World.drewN_drewN _ _ _⟩ | exact ⟨rfl,_,Eq.trans (World.drewN_drewN _ _ _) (congrArg (World.drewN _) (Nat.add_assoc _ _ _))⟩)))))
            go_meet
            case rel=>exact ⟨_,(t190),(rfl),H',⟨by have:=HK1.out; have:=HJ4.out; have:=HJ7.out; first | omega | exact Nat.le_refl _⟩,by repeat (first | exact Drawn0.refl _ | apply Drawn0.step)⟩
          ·rw [if_neg c20] at H
           have c20b0 : decide (0 < x10_1) = false:=decide_eq_false c20; clear c20
           (first | rw [c20b0] | rw [c20b1] | (simp only [i64_w,i32_w]; rw [c20b0]) | skip)
           have H':=Aside0.mk H; clear H
           go_wp2
           (repeat (go_quiet (fail); try go_wp2))
           go_meet
           case rel=>exact ⟨_,(false),(rfl),H',⟨by have:=HK1.out; have:=HJ4.out; have:=HJ7.out; first | omega | exact Nat.le_refl _⟩,by repeat (first | exact Drawn0.refl _ | apply Drawn0.step)⟩
         case rest =>
          clear HC19; obtain ⟨kq,x62_18,rfl,HA,HJ18,⟨mc18,rfl⟩⟩:=hcut
          cases kq with
          | zero=>exact absurd HA.out (by simp [sais_same.j3])
          | succ kj18 =>
           have H:=HA.out; clear HA; simp only [sais_same.j3] at H
           by_cases c24 : x62_18 = true
           ·subst c24
            have H1 : ((sais_isTurn.f l1 (wrap64 (a2 + x10_1))).bind fun t191=>(if t191 = true then ((sais_isTurn.f l1 (wrap64 (a3 + x10_1))).bind fun t192=>(some t192)) else (some false))) = some r:=by rw [if_pos rfl] at H; exact H
            clear H; have H:=H1; clear H1; replace H:=Option.bind_eq_some_iff.mp H; obtain ⟨t191,A250,H⟩:=H; replace H : (if t191 = true then ((sais_isTurn.f l1 (wrap64 (a3 + x10_1))).bind fun t192=>(some t192)) else (some false)) = some r:=H; have A25:=Aside0.mk A250; clear A250
            by_cases c26 : t191 = true
            ·subst c26
             have H1 : ((sais_isTurn.f l1 (wrap64 (a3 + x10_1))).bind fun t192=>(some t192)) = some r:=by rw [if_pos rfl] at H; exact H
             clear H; have H:=H1; clear H1; replace H:=Option.bind_eq_some_iff.mp H; obtain ⟨t192,A270,H⟩:=H; replace H : (some t192) = some r:=H; have A27:=Aside0.mk A270; clear A270; obtain rfl:=Option.some.inj H
             go_wp2_with (first | (go_at_call 85; (with_reducible refine (sais_isTurn.calls _ _ l1 (wrap64 (a2 + x10_1)) true _ ?side1 ?side2 A25.out).mono ?_); (case side1=>exact HR1.out); (case side2=>exact HC1.out); rintro e w' ⟨rfl,⟨nd,rfl⟩⟩; (try first | exact ⟨rfl,_,World.drewN_drewN _ _ _⟩ | exact ⟨rfl,_,Eq.trans (World.drewN_drewN _ _ _) (congrArg (World.drewN _) (Nat.add_assoc _ _ _))⟩)) | (go_at_call 85; (with_reducible refine (sais_isTurn.calls _ _ l1 (wrap64 (a3 + x10_1)) t192 _ ?side1 ?side2 A27.out).mono ?_); (case side1=>exact HR1.out); (case side2=>exact HC1.out); rintro e w' ⟨rfl,⟨nd,rfl⟩⟩; (try first | exact ⟨rfl,_,World.drewN_drewN _ _ _⟩ | exact ⟨rfl,_,Eq.trans (World.drewN_drewN _ _ _) (congrArg (World.drewN _) (Nat.add_assoc _ _ _))⟩)))
             (repeat (go_quiet (first | (go_at_call 85; (with_reducible refine (sais_isTurn.calls _ _ l1 (wrap64 (a2 + x10_1)) true _ ?side1 ?side2 A25.out).mono ?_); (case side1=>exact HR1.out); (case side2=>exact HC1.out); rintro e w' ⟨rfl,⟨nd,rfl⟩⟩; (try first | exact ⟨rfl,_,World.drewN_drewN _ _ _⟩ | exact ⟨rfl,_,Eq.trans (World.drewN_drewN _ _ _) (congrArg (World.drewN _) (Nat.add_assoc _ _ _))⟩)) | (go_at_call 85; (with_reducible refine (sais_isTurn.calls _ _ l1 (wrap64 (a3 + x10_1)) t192 _ ?side1 ?side2 A27.out).mono ?_); (case side1=>exact HR1.out); (case side2=>exact HC1.out); rintro e w' ⟨rfl,⟨nd,rfl⟩⟩; (try first | exact ⟨rfl,_,World.drewN_drewN _ _ _⟩ | exact ⟨rfl,_,Eq.trans (World.drewN_drewN _ _ _) (congrArg (World.drewN _) (Nat.add_assoc _ _ _))⟩))); try go_wp2_with (first | (go_at_call 85; (with_reducible refine (sais_isTurn.calls _ _ l1 (wrap64 (a2 + x10_1)) true _ ?side1 ?side2 A25.out).mono ?_); (case side1=>exact HR1.out); (case side2=>exact HC1.out); rintro e w' ⟨rfl,⟨nd,rfl⟩⟩; (try first | exact ⟨rfl,_,World.drewN_drewN _ _ _⟩ | exact ⟨rfl,_,Eq.trans (World.drewN_drewN _ _ _) (congrArg (World.drewN _) (Nat.add_assoc _ _ _))⟩)) | (go_at_call 85; (with_reducible refine (sais_isTurn.calls _ _ l1 (wrap64 (a3 + x10_1)) t192 _ ?side1 ?side2 A27.out).mono ?_); (case side1=>exact HR1.out); (case side2=>exact HC1.out); rintro e w' ⟨rfl,⟨nd,rfl⟩⟩; (try first | exact ⟨rfl,_,World.drewN_drewN _ _ _⟩ | exact ⟨rfl,_,Eq.trans (World.drewN_drewN _ _ _) (congrArg (World.drewN _) (Nat.add_assoc _ _ _))⟩)))))
             go_ret
             exact ⟨rfl,by repeat (first | exact Drawn0.refl _ | apply Drawn0.step)⟩
            ·replace c26:=Bool.eq_false_iff.mpr c26
             subst c26
             have H1 : (some false) = some r:=by rw [if_neg (show ¬ (false = true) by decide)] at H; exact H
             clear H; have H:=H1; clear H1; obtain rfl:=Option.some.inj H
             go_wp2_with (first | (go_at_call 85; (with_reducible refine (sais_isTurn.calls _ _ l1 (wrap64 (a2 + x10_1)) false _ ?side1 ?side2 A25.out).mono ?_); (case side1=>exact HR1.out); (case side2=>exact HC1.out); rintro e w' ⟨rfl,⟨nd,rfl⟩⟩; (try first | exact ⟨rfl,_,World.drewN_drewN _ _ _⟩ | exact ⟨rfl,_,Eq.trans (World.drewN_drewN _ _ _) (congrArg (World.drewN _) (Nat.add_assoc _ _ _))⟩)))
             (repeat (go_quiet (first | (go_at_call 85; (with_reducible refine (sais_isTurn.calls _ _ l1 (wrap64 (a2 + x10_1)) false _ ?side1 ?side2 A25.out).mono ?_); (case side1=>exact HR1.out); (case side2=>exact HC1.out); rintro e w' ⟨rfl,⟨nd,rfl⟩⟩; (try first | exact ⟨rfl,_,World.drewN_drewN _ _ _⟩ | exact ⟨rfl,_,Eq.trans (World.drewN_drewN _ _ _) (congrArg (World.drewN _) (Nat.add_assoc _ _ _))⟩))); try go_wp2_with (first | (go_at_call 85; (with_reducible refine (sais_isTurn.calls _ _ l1 (wrap64 (a2 + x10_1)) false _ ?side1 ?side2 A25.out).mono ?_); (case side1=>exact HR1.out); (case side2=>exact HC1.out); rintro e w' ⟨rfl,⟨nd,rfl⟩⟩; (try first | exact ⟨rfl,_,World.drewN_drewN _ _ _⟩ | exact ⟨rfl,_,Eq.trans (World.drewN_drewN _ _ _) (congrArg (World.drewN _) (Nat.add_assoc _ _ _))⟩)))))
             go_ret
             exact ⟨rfl,by repeat (first | exact Drawn0.refl _ | apply Drawn0.step)⟩
           ·replace c24:=Bool.eq_false_iff.mpr c24
            subst c24
            have H1 : (sais_same.l0 kj18 l0 l1 a2 a3 (l0.length : Int) (wrap64 (x10_1 + 1))) = some r:=by rw [if_neg (show ¬ (false = true) by decide)] at H; exact H
            clear H; have H:=H1; clear H1; have H':=Aside0.mk H; clear H
            go_wp2
            (repeat (go_quiet (fail); try go_wp2))
            go_roundg kj18
            case measure=>have:=HK1.out; have:=HJ4.out; have:=HJ7.out; have:=HJ18.out; omega
            case rel=>exact ⟨(wrap64 (x10_1 + 1)),(rfl),H',⟨by have:=HK1.out; have:=HJ4.out; have:=HJ7.out; have:=HJ18.out; omega⟩,by repeat (first | exact Drawn0.refl _ | apply Drawn0.step)⟩

end Go.Proofs.Ythcnnfahlhklgaa.X
