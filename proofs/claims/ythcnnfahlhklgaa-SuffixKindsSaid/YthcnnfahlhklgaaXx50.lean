-- Printed by wip/xprint.py of this repo (a wrapper of the session's own round the print).
import Derived.Test.YthcnnfahlhklgaaXx0
import Derived.Test.YthcnnfahlhklgaaXBA
namespace Go.Proofs.Ythcnnfahlhklgaa.X
open Go.RowKit Go.Proofs.YthcnnfahlhklgaaW.PrintWords Go.Proofs.YthcnnfahlhklgaaW.PrintLast Go.Proofs.YthcnnfahlhklgaaW.PrintMore
attribute [local go_sem] ptrOf_eql ptrOf_neq ptrOf_eqg ptrOf_neg str_leq str_geq str_gtr max2_int min2_int max_two min_two max_three min_three max_four min_four   -- for this text's walks alone
set_option linter.unusedVariables false
set_option linter.unusedSimpArgs false

/-! ### sapperref13_count: function 64 -/
def sapperref13_count.l0 : Nat→List Int→List Int→Int→Int→Option (Int)
 | 0,_,_,_,_=>none
 | k + 1,x0,x1,x5,x6=>if (wrap64 (x6 + (x1.length : Int)))≤(x0.length : Int) then (if 0≤x6 then (if x6≤(wrap64 (x6 + (x1.length : Int))) then (if (strOfNums ((x0.take ((wrap64 (x6 + (x1.length : Int))) : Int).toNat).drop (x6 : Int).toNat)).toList = (strOfNums x1).toList then (sapperref13_count.l0 k x0 x1 (wrap64 (x5 + 1)) (wrap64 (x6 + 1))) else (sapperref13_count.l0 k x0 x1 x5 (wrap64 (x6 + 1)))) else (none)) else (none)) else (some x5)
def sapperref13_count.f (k : Nat) (l0 : List Int) (l1 : List Int) : Option (Int):=sapperref13_count.l0 k l0 l1 0 0
theorem sapperref13_count.mono_l : ∀ k,(∀ y0 y1 y2 y3,LeO (sapperref13_count.l0 k y0 y1 y2 y3) (sapperref13_count.l0 (k + 1) y0 y1 y2 y3))
 | 0=>fun _ _ _ _ r h=>by simp [sapperref13_count.l0] at h
 | k + 1=>by
  have ih0:=sapperref13_count.mono_l k
  ·intro y0 y1 y2 y3
   unfold sapperref13_count.l0
   repeat' first
   | (with_reducible exact ih0 _ _ _ _)
   | (with_reducible exact LeO.refl _)
   | (with_reducible exact LeO.none _)
   | (with_reducible refine LeO.ite ?_ ?_)
   | (with_reducible refine LeO.bind ?_ (fun _=>?_))
   | exact ih0 _ _ _ _
   | exact LeO.none _
   | refine LeO.ite ?_ ?_
   | refine LeO.bind ?_ (fun _=>?_)
theorem sapperref13_count.mono : ∀ a0 a1 k,LeO (sapperref13_count.f k a0 a1) (sapperref13_count.f (k + 1) a0 a1):=by
 intro a0 a1 k
 have ih0:=sapperref13_count.mono_l k
 unfold sapperref13_count.f
 repeat' first
   | (with_reducible exact ih0 _ _ _ _)
   | (with_reducible exact LeO.refl _)
   | (with_reducible exact LeO.none _)
   | (with_reducible refine LeO.ite ?_ ?_)
   | (with_reducible refine LeO.bind ?_ (fun _=>?_))
   | exact ih0 _ _ _ _
   | exact LeO.none _
   | refine LeO.ite ?_ ?_
   | refine LeO.bind ?_ (fun _=>?_)
set_option maxHeartbeats 8000000 in
set_option maxRecDepth 100000 in
theorem sapperref13_count.calls (k : Nat) (A0 : Option Addr) (c0 : Nat) (l0 : List Int) (A1 : Option Addr) (c1 : Nat) (l1 : List Int) (r : Int) (w : World) (hr0 : Kd.C (Kd.int .u8) w A0 l0.length l0) (hc0 : l0.length≤c0) (hr1 : Kd.C (Kd.int .u8) w A1 l1.length l1) (hc1 : l1.length≤c1) (h : sapperref13_count.f k l0 l1 = some r) :
  Calls Try.prog 64 #[.slice A0 l0.length c0,.slice A1 l1.length c1] w fun e w'=>e = .returned (.int .i64 r)∧Drawn0 w w':=by
 have HR0:=Aside0.mk hr0
 have HC0:=Aside0.mk hc0
 clear hr0 hc0
 have HR1:=Aside0.mk hr1
 have HC1:=Aside0.mk hc1
 clear hr1 hc1
 have H : (sapperref13_count.l0 k l0 l1 0 0) = some r:=h
 clear h
 have H':=Aside0.mk H
 clear H
 go_enter Try.func64,Try.ntmps64
 go_wp2
 repeat (go_quiet (fail); try go_wp2)
 go_loopg [5,6] k (fun kq v5 v6 w'=>∃ (x5_1 : Int) (x6_1 : Int),v5 = .int .i64 x5_1∧v6 = .int .i64 x6_1∧Aside0 (sapperref13_count.l0 kq l0 l1 x5_1 x6_1 = some r)∧Aside0 (kq≤k)∧Drawn0 w w')
 case atStart=>exact ⟨(0),(0),(by first | rfl | (simp; done) | (simp [*]; done)),(by first | rfl | (simp; done) | (simp [*]; done)),H',⟨Nat.le_refl _⟩,by repeat (first | exact Drawn0.refl _ | apply Drawn0.step)⟩
 case round =>
  clear H'
  try clear c1
  try clear p2
  obtain ⟨x5_1,x6_1,rfl,rfl,HA,HK1,⟨m1,rfl⟩⟩:=hrel
  cases gk with
  | zero=>exact absurd HA.out (by simp [sapperref13_count.l0])
  | succ k1 =>
   have H:=HA.out
   clear HA
   simp only [sapperref13_count.l0] at H
   by_cases c3 : (wrap64 (x6_1 + (l1.length : Int)))≤(l0.length : Int)
   ·rw [if_pos c3] at H
    have c3b0 : decide ((wrap64 (x6_1 + (l1.length : Int)))≤(l0.length : Int)) = true:=decide_eq_true c3
    clear c3
    by_cases c4 : 0≤x6_1
    ·rw [if_pos c4] at H
     have c4b0:=eq_true c4
     have c4b1 : decide (0≤x6_1) = true:=decide_eq_true c4
     clear c4
     by_cases c5 : x6_1≤(wrap64 (x6_1 + (l1.length : Int)))
     ·rw [if_pos c5] at H
      have c5b0:=eq_true c5
      have c5b1 : decide (x6_1≤(wrap64 (x6_1 + (l1.length : Int)))) = true:=decide_eq_true c5
      have c6b0:=eq_true (Qt : (wrap64 (x6_1 + (l1.length : Int)))≤(l0.length : Int))
      by_cases c7 : (strOfNums ((l0.take ((wrap64 (x6_1 + (l1.length : Int))) : Int).toNat).drop (x6_1 : Int).toNat)).toList = (strOfNums l1).toList
      ·rw [if_pos c7] at H
       have c7b0 : ((strOfNums ((l0.take ((wrap64 (x6_1 + (l1.length : Int))) : Int).toNat).drop (x6_1 : Int).toNat)).toList == (strOfNums l1).toList) = true:=beq_iff_eq.mpr c7
       have c7b1 : ((strOfNums ((l0.take ((wrap64 (x6_1 + (l1.length : Int))) : Int).toNat).drop (x6_1 : Int).toNat)).toList != (strOfNums l1).toList) = false:=bne_eq_false_iff_eq.mpr c7
       clear c7
       have H':=Aside0.mk H
       clear H
       obtain ⟨i08,hi08,_,hsz8,_⟩:=info_parts info5
       obtain ⟨A8,hcut8,hA8,hC8⟩:=print_mid_of (P:=Try.prog) (Value.int .u8) 0 23 5 .i64 .i64 Try.underlying23 hi08 hsz8 A0 c0 l0 x6_1 (wrap64 (x6_1 + (l1.length : Int))) (Qt) (by first | omega | exact Qt) (Qt) HC0.out
       (try (have hws4:=i64_w (x6_1 + (l1.length : Int))))
       have HR342:=Aside0.mk (Kd.C_of_reads (h1:=fun _=>rfl) (hA8 _ (Kd.reads_of_C HR0.out)))
       have HC342:=Aside0.mk hC8
       clear hA8 hC8 hi08 hsz8
       have hcv9:=Kd.C_string (P:=Try.prog) (A:=A8) (c:=(c0 - x6_1.toNat)) Try.underlying23 Try.underlying5 Try.underlying9 HR342.out
       (try (have hcv9k:=C_string0 (P:=Try.prog) (A:=A8) (c:=(c0 - x6_1.toNat)) Try.underlying23 Try.underlying5 Try.underlying9 HR342.out))
       (try (have hcv9n:=C_string1 (P:=Try.prog) (A:=A8) (c:=(c0 - x6_1.toNat)) Try.underlying23 Try.underlying5 Try.underlying9 HR342.out))
       (try (have hcv9m:=C_string2 (P:=Try.prog) (A:=A8) (c:=(c0 - x6_1.toNat)) Try.underlying23 Try.underlying5 Try.underlying9 HR342.out))
       have hcv10:=Kd.C_string (P:=Try.prog) (A:=A1) (c:=c1) Try.underlying23 Try.underlying5 Try.underlying9 HR1.out
       (try (have hcv10k:=C_string0 (P:=Try.prog) (A:=A1) (c:=c1) Try.underlying23 Try.underlying5 Try.underlying9 HR1.out))
       (try (have hcv10n:=C_string1 (P:=Try.prog) (A:=A1) (c:=c1) Try.underlying23 Try.underlying5 Try.underlying9 HR1.out))
       (try (have hcv10m:=C_string2 (P:=Try.prog) (A:=A1) (c:=c1) Try.underlying23 Try.underlying5 Try.underlying9 HR1.out))
       go_wp2
       repeat (go_quiet (fail); try go_wp2)
       go_roundg k1
       case measure=>have:=HK1.out; omega
       case rel=>exact ⟨(wrap64 (x5_1 + 1)),(wrap64 (x6_1 + 1)),(by first | rfl | (simp; done) | (simp [*]; done)),(by first | rfl | (simp; done) | (simp [*]; done)),H',⟨by have:=HK1.out; omega⟩,by repeat (first | exact Drawn0.refl _ | apply Drawn0.step)⟩
      ·rw [if_neg c7] at H
       have c7b0 : ((strOfNums ((l0.take ((wrap64 (x6_1 + (l1.length : Int))) : Int).toNat).drop (x6_1 : Int).toNat)).toList == (strOfNums l1).toList) = false:=beq_eq_false_iff_ne.mpr c7
       have c7b1 : ((strOfNums ((l0.take ((wrap64 (x6_1 + (l1.length : Int))) : Int).toNat).drop (x6_1 : Int).toNat)).toList != (strOfNums l1).toList) = true:=bne_iff_ne.mpr c7
       have H':=Aside0.mk H
       clear H
       obtain ⟨i011,hi011,_,hsz11,_⟩:=info_parts info5
       obtain ⟨A11,hcut11,hA11,hC11⟩:=print_mid_of (P:=Try.prog) (Value.int .u8) 0 23 5 .i64 .i64 Try.underlying23 hi011 hsz11 A0 c0 l0 x6_1 (wrap64 (x6_1 + (l1.length : Int))) (Qt) (by first | omega | exact Qt) (Qt) HC0.out
       (try (have hws5:=i64_w (x6_1 + (l1.length : Int))))
       have HR342:=Aside0.mk (Kd.C_of_reads (h1:=fun _=>rfl) (hA11 _ (Kd.reads_of_C HR0.out)))
       have HC342:=Aside0.mk hC11
       clear hA11 hC11 hi011 hsz11
       have hcv12:=Kd.C_string (P:=Try.prog) (A:=A11) (c:=(c0 - x6_1.toNat)) Try.underlying23 Try.underlying5 Try.underlying9 HR342.out
       (try (have hcv12k:=C_string0 (P:=Try.prog) (A:=A11) (c:=(c0 - x6_1.toNat)) Try.underlying23 Try.underlying5 Try.underlying9 HR342.out))
       (try (have hcv12n:=C_string1 (P:=Try.prog) (A:=A11) (c:=(c0 - x6_1.toNat)) Try.underlying23 Try.underlying5 Try.underlying9 HR342.out))
       (try (have hcv12m:=C_string2 (P:=Try.prog) (A:=A11) (c:=(c0 - x6_1.toNat)) Try.underlying23 Try.underlying5 Try.underlying9 HR342.out))
       have hcv13:=Kd.C_string (P:=Try.prog) (A:=A1) (c:=c1) Try.underlying23 Try.underlying5 Try.underlying9 HR1.out
       (try (have hcv13k:=C_string0 (P:=Try.prog) (A:=A1) (c:=c1) Try.underlying23 Try.underlying5 Try.underlying9 HR1.out))
       (try (have hcv13n:=C_string1 (P:=Try.prog) (A:=A1) (c:=c1) Try.underlying23 Try.underlying5 Try.underlying9 HR1.out))
       (try (have hcv13m:=C_string2 (P:=Try.prog) (A:=A1) (c:=c1) Try.underlying23 Try.underlying5 Try.underlying9 HR1.out))
       go_wp2
       repeat (go_quiet (fail); try go_wp2)
       go_roundg k1
       case measure=>have:=HK1.out; omega
       case rel=>exact ⟨(x5_1),(wrap64 (x6_1 + 1)),(by first | rfl | (simp; done) | (simp [*]; done)),(by first | rfl | (simp; done) | (simp [*]; done)),H',⟨by have:=HK1.out; omega⟩,by repeat (first | exact Drawn0.refl _ | apply Drawn0.step)⟩
     ·rw [if_neg c5] at H
      exact absurd H (by simp)
    ·rw [if_neg c4] at H
     exact absurd H (by simp)
   ·rw [if_neg c3] at H
    have c3b0 : decide ((wrap64 (x6_1 + (l1.length : Int)))≤(l0.length : Int)) = false:=decide_eq_false c3
    clear c3
    obtain rfl:=Option.some.inj H
    go_wp2
    repeat (go_quiet (fail); try go_wp2)
    go_ret
    exact ⟨by first | rfl | (simp; done) | (simp [*]; done),by repeat (first | exact Drawn0.refl _ | apply Drawn0.step)⟩

end Go.Proofs.Ythcnnfahlhklgaa.X
