-- Printed by wip/xprint.py of this repo (a wrapper of the session's own round the print).
import Derived.Test.YthcnnfahlhklgaaXx0
import Derived.Test.YthcnnfahlhklgaaXBA
namespace Go.Proofs.Ythcnnfahlhklgaa.X
open Go.RowKit Go.Proofs.YthcnnfahlhklgaaW.PrintWords Go.Proofs.YthcnnfahlhklgaaW.PrintLast Go.Proofs.YthcnnfahlhklgaaW.PrintMore
attribute [local go_sem] ptrOf_eql ptrOf_neq ptrOf_eqg ptrOf_neg str_leq str_geq str_gtr max2_int min2_int max_two min_two max_three min_three max_four min_four   -- for this text's walks alone
set_option linter.unusedVariables false
set_option linter.unusedSimpArgs false

/-! ### sais_check: function 70 -/
mutual
def sais_check.j0 : Nat→Int→List Int→Bool→Option (Int)
 | 0,_,_,_=>none
 | k + 1,x0,x1,x12=>if x12 = true then (some 1) else (if (x1.length : Int) > 16777216 then (some 120) else (sais_check.l0 k x0 x1 (x1.length : Int) 0))
def sais_check.l0 : Nat→Int→List Int→Int→Int→Option (Int)
 | 0,_,_,_,_=>none
 | k + 1,x0,x16,x17,x18=>if x18 < x17 then (if 0≤x18 then (if x18 < (x16.length : Int) then (if (rd x16 x18) < 0 then (some 121) else (if (rd x16 x18) ≥ x0 then (some 121) else (sais_check.l0 k x0 x16 x17 (wrap64 (x18 + 1))))) else (none)) else (none)) else (some 0)
end
def sais_check.f (k : Nat) (a0 : Int) (l1 : List Int) : Option (Int):=if a0 < 0 then (sais_check.j0 k a0 l1 true) else (sais_check.j0 k a0 l1 (decide (a0 > 33554432)))
theorem sais_check.mono_l : ∀ k,(∀ y0 y1 y2,LeO (sais_check.j0 k y0 y1 y2) (sais_check.j0 (k + 1) y0 y1 y2))∧(∀ y0 y1 y2 y3,LeO (sais_check.l0 k y0 y1 y2 y3) (sais_check.l0 (k + 1) y0 y1 y2 y3))
 | 0=>⟨fun _ _ _ r h=>by simp [sais_check.j0] at h,fun _ _ _ _ r h=>by simp [sais_check.l0] at h⟩
 | k + 1=>by
  obtain ⟨ih0,ih1⟩:=sais_check.mono_l k
  refine ⟨?_,?_⟩
  intro y0 y1 y2; unfold sais_check.j0; rotate_left
  intro y0 y1 y2 y3; unfold sais_check.l0; rotate_left
  all_goals
   repeat' first
   | (with_reducible exact ih0 _ _ _)
   | (with_reducible exact ih1 _ _ _ _)
   | (with_reducible exact LeO.refl _)
   | (with_reducible exact LeO.none _)
   | (with_reducible refine LeO.ite ?_ ?_)
   | (with_reducible refine LeO.bind ?_ (fun _=>?_))
   | exact ih0 _ _ _
   | exact ih1 _ _ _ _
   | exact LeO.none _
   | refine LeO.ite ?_ ?_
   | refine LeO.bind ?_ (fun _=>?_)
theorem sais_check.mono : ∀ a0 a1 k,LeO (sais_check.f k a0 a1) (sais_check.f (k + 1) a0 a1):=by
 intro a0 a1 k
 obtain ⟨ih0,ih1⟩:=sais_check.mono_l k
 unfold sais_check.f
 repeat' first
   | (with_reducible exact ih0 _ _ _)
   | (with_reducible exact ih1 _ _ _ _)
   | (with_reducible exact LeO.refl _)
   | (with_reducible exact LeO.none _)
   | (with_reducible refine LeO.ite ?_ ?_)
   | (with_reducible refine LeO.bind ?_ (fun _=>?_))
   | exact ih0 _ _ _
   | exact ih1 _ _ _ _
   | exact LeO.none _
   | refine LeO.ite ?_ ?_
   | refine LeO.bind ?_ (fun _=>?_)
set_option maxHeartbeats 8000000 in
set_option maxRecDepth 100000 in
theorem sais_check.calls (k : Nat) (a0 : Int) (A1 : Option Addr) (c1 : Nat) (l1 : List Int) (r : Int) (w : World) (hr1 : Kd.C (Kd.int .i64) w A1 l1.length l1) (hc1 : l1.length≤c1) (h : sais_check.f k a0 l1 = some r) :
  Calls Try.prog 70 #[.int .i64 a0,.slice A1 l1.length c1] w fun e w'=>e = .returned (.int .i64 r)∧Drawn0 w w':=by
 have HR1:=Aside0.mk hr1
 have HC1:=Aside0.mk hc1
 clear hr1 hc1
 have H : (if a0 < 0 then (sais_check.j0 k a0 l1 true) else (sais_check.j0 k a0 l1 (decide (a0 > 33554432)))) = some r:=h
 clear h
 have HC3:=Aside0.mk H
 clear H
 go_enter Try.func70,Try.ntmps70
 go_upto_region 1 with (fail)
 go_cut [12] (fun v12 wc=>∃ (kq : Nat) (x12_2 : Bool),v12 = .bool x12_2∧Aside0 (sais_check.j0 kq a0 l1 x12_2 = some r)∧Aside0 (kq≤k)∧Drawn0 w wc)
 case first =>
  have H:=HC3.out
  clear HC3
  by_cases c4 : a0 < 0
  ·rw [if_pos c4] at H
   have c4b0 : decide (a0 < 0) = true:=decide_eq_true c4
   clear c4
   (first | rw [c4b0] | rw [c4b1] | (simp only [i64_w,i32_w]; rw [c4b0]) | skip)
   have H':=Aside0.mk H
   clear H
   go_wp2
   go_meet
   case rel=>exact ⟨_,(true),(by first | rfl | (simp; done) | (simp [*]; done)),H',⟨by first | omega | exact Nat.le_refl _⟩,by repeat (first | exact Drawn0.refl _ | apply Drawn0.step)⟩
  ·rw [if_neg c4] at H
   have c4b0 : decide (a0 < 0) = false:=decide_eq_false c4
   clear c4
   (first | rw [c4b0] | rw [c4b1] | (simp only [i64_w,i32_w]; rw [c4b0]) | skip)
   have H':=Aside0.mk H
   clear H
   go_wp2
   go_meet
   case rel=>exact ⟨_,(decide (a0 > 33554432)),(by first | rfl | (simp; done) | (simp [*]; done)),H',⟨by first | omega | exact Nat.le_refl _⟩,by repeat (first | exact Drawn0.refl _ | apply Drawn0.step)⟩
 case rest =>
  clear HC3
  try clear c1
  try clear p2
  try clear c4
  try clear c4b0
  obtain ⟨kq,x12_2,rfl,HA,HJ2,⟨mc2,rfl⟩⟩:=hcut
  cases kq with
  | zero=>exact absurd HA.out (by simp [sais_check.j0])
  | succ kj2 =>
   have H:=HA.out
   clear HA
   simp only [sais_check.j0] at H
   by_cases c5 : x12_2 = true
   ·subst c5
    have H1 : (some 1) = some r:=by rw [if_pos rfl] at H; exact H
    clear H
    have H:=H1
    clear H1
    obtain rfl:=Option.some.inj H
    go_wp2
    go_ret
    exact ⟨by first | rfl | (simp; done) | (simp [*]; done),by repeat (first | exact Drawn0.refl _ | apply Drawn0.step)⟩
   ·replace c5:=Bool.eq_false_iff.mpr c5
    subst c5
    have H1 : (if (l1.length : Int) > 16777216 then (some 120) else (sais_check.l0 kj2 a0 l1 (l1.length : Int) 0)) = some r:=by rw [if_neg (show ¬ (false = true) by decide)] at H; exact H
    clear H
    have H:=H1
    clear H1
    by_cases c6 : (l1.length : Int) > 16777216
    ·rw [if_pos c6] at H
     have c6b0 : decide (16777216 < (l1.length : Int)) = true:=decide_eq_true c6
     have c6b1 : decide (16777216 < l1.length) = true:=decide_eq_true (by omega)
     clear c6
     obtain rfl:=Option.some.inj H
     go_wp2
     go_ret
     exact ⟨by first | rfl | (simp; done) | (simp [*]; done),by repeat (first | exact Drawn0.refl _ | apply Drawn0.step)⟩
    ·rw [if_neg c6] at H
     have c6b0 : decide (16777216 < (l1.length : Int)) = false:=decide_eq_false c6
     have c6b1 : decide (16777216 < l1.length) = false:=decide_eq_false (by omega)
     clear c6
     have H':=Aside0.mk H
     clear H
     go_wp2
     go_loopg [18] kj2 (fun kq v18 w'=>∃ (x18_2 : Int),v18 = .int .i64 x18_2∧Aside0 (sais_check.l0 kq a0 l1 (l1.length : Int) x18_2 = some r)∧Aside0 (kq≤kj2)∧Drawn0 w w')
     case atStart=>exact ⟨(0),(by first | rfl | (simp; done) | (simp [*]; done)),H',⟨Nat.le_refl _⟩,by repeat (first | exact Drawn0.refl _ | apply Drawn0.step)⟩
     case round =>
      clear H'
      try clear c1
      try clear c2
      try clear p2
      try clear c4
      try clear c4b0
      try clear c5
      try clear c6
      try clear c6b0
      try clear c6b1
      try clear p2
      obtain ⟨x18_2,rfl,HA,HK2,⟨m2,rfl⟩⟩:=hrel
      cases gk with
      | zero=>exact absurd HA.out (by simp [sais_check.l0])
      | succ k2 =>
       have H:=HA.out
       clear HA
       simp only [sais_check.l0] at H
       by_cases c7 : x18_2 < (l1.length : Int)
       ·rw [if_pos c7] at H
        have c7b0 : decide (x18_2 < (l1.length : Int)) = true:=decide_eq_true c7
        clear c7
        by_cases c8 : 0≤x18_2
        ·rw [if_pos c8] at H
         have c8b0 : decide (0≤x18_2) = true:=decide_eq_true c8
         clear c8
         by_cases c9 : x18_2 < (l1.length : Int)
         ·rw [if_pos c9] at H
          have c9b0 : decide (x18_2 < (l1.length : Int)) = true:=decide_eq_true c9
          clear c9
          by_cases c10 : (rd l1 x18_2) < 0
          ·rw [if_pos c10] at H
           have c10b0 : decide ((rd l1 x18_2) < 0) = true:=decide_eq_true c10
           clear c10
           obtain rfl:=Option.some.inj H
           have p101 : 0≤(x18_2 : Int):=Qt
           have q101 : x18_2 < (l1.length : Int):=Qt
           obtain ⟨ad101,e101,hx101_0⟩:=Kd.at_int HR1.out x18_2 p101 q101
           cases e101
           replace p101:=eq_true p101
           replace q101:=eq_true q101
           go_wp2
           go_ret
           exact ⟨by first | rfl | (simp; done) | (simp [*]; done),by repeat (first | exact Drawn0.refl _ | apply Drawn0.step)⟩
          ·rw [if_neg c10] at H
           have c10b0 : decide ((rd l1 x18_2) < 0) = false:=decide_eq_false c10
           clear c10
           by_cases c11 : (rd l1 x18_2) ≥ a0
           ·rw [if_pos c11] at H
            have c11b0 : decide (a0≤(rd l1 x18_2)) = true:=decide_eq_true c11
            clear c11
            obtain rfl:=Option.some.inj H
            have p101 : 0≤(x18_2 : Int):=Qt
            have q101 : x18_2 < (l1.length : Int):=Qt
            obtain ⟨ad101,e101,hx101_0⟩:=Kd.at_int HR1.out x18_2 p101 q101
            cases e101
            replace p101:=eq_true p101
            replace q101:=eq_true q101
            go_wp2
            go_ret
            exact ⟨by first | rfl | (simp; done) | (simp [*]; done),by repeat (first | exact Drawn0.refl _ | apply Drawn0.step)⟩
           ·rw [if_neg c11] at H
            have c11b0 : decide (a0≤(rd l1 x18_2)) = false:=decide_eq_false c11
            clear c11
            have H':=Aside0.mk H
            clear H
            have p101 : 0≤(x18_2 : Int):=Qt
            have q101 : x18_2 < (l1.length : Int):=Qt
            obtain ⟨ad101,e101,hx101_0⟩:=Kd.at_int HR1.out x18_2 p101 q101
            cases e101
            replace p101:=eq_true p101
            replace q101:=eq_true q101
            go_wp2
            go_roundg k2
            case measure=>have:=HJ2.out; have:=HK2.out; omega
            case rel=>exact ⟨(wrap64 (x18_2 + 1)),(by first | rfl | (simp; done) | (simp [*]; done)),H',⟨by have:=HJ2.out; have:=HK2.out; omega⟩,by repeat (first | exact Drawn0.refl _ | apply Drawn0.step)⟩
         ·rw [if_neg c9] at H
          exact absurd H (by simp)
        ·rw [if_neg c8] at H
         exact absurd H (by simp)
       ·rw [if_neg c7] at H
        have c7b0 : decide (x18_2 < (l1.length : Int)) = false:=decide_eq_false c7
        clear c7
        obtain rfl:=Option.some.inj H
        go_wp2
        go_ret
        exact ⟨by first | rfl | (simp; done) | (simp [*]; done),by repeat (first | exact Drawn0.refl _ | apply Drawn0.step)⟩

end Go.Proofs.Ythcnnfahlhklgaa.X
