-- Printed by wip/xprint.py of this repo (a wrapper of the session's own round the print).
import Derived.Test.YthcnnfahlhklgaaXx0
import Derived.Test.YthcnnfahlhklgaaXBA
namespace Go.Proofs.Ythcnnfahlhklgaa.X
open Go.RowKit Go.Proofs.YthcnnfahlhklgaaW.PrintWords Go.Proofs.YthcnnfahlhklgaaW.PrintLast Go.Proofs.YthcnnfahlhklgaaW.PrintMore
attribute [local go_sem] ptrOf_eql ptrOf_neq ptrOf_eqg ptrOf_neg str_leq str_geq str_gtr max2_int min2_int max_two min_two max_three min_three max_four min_four   -- for this text's walks alone
set_option linter.unusedVariables false
set_option linter.unusedSimpArgs false

/-! ### sapperref13_Array: function 28 -/
mutual
def sapperref13_Array.l0 : Nat→List Int→List Int→Int→Int→Option (List Int)
 | 0,_,_,_,_=>none
 | k + 1,x0,x9,x11,x12=>if x12 < x11 then (sapperref13_Array.l1 k x0 x12 0 x9 x11 x12 (x0.length : Int) 0) else (some x9)
def sapperref13_Array.l1 : Nat→List Int→Int→Int→List Int→Int→Int→Int→Int→Option (List Int)
 | 0,_,_,_,_,_,_,_,_=>none
 | k + 1,x0,x4,x5,x9,x11,x12,x16,x17=>if x17 < x16 then (if 0≤x17 then (if x17≤(x0.length : Int) then (if 0≤x4 then (if x4≤(x0.length : Int) then (if (Op.bytesLess ((strOfNums (x0.drop (x17 : Int).toNat)).toList) ((strOfNums (x0.drop (x4 : Int).toNat)).toList)) = true then (sapperref13_Array.l1 k x0 x4 (wrap64 (x5 + 1)) x9 x11 x12 x16 (wrap64 (x17 + 1))) else (sapperref13_Array.l1 k x0 x4 x5 x9 x11 x12 x16 (wrap64 (x17 + 1)))) else (none)) else (none)) else (none)) else (none)) else (if 0≤x5 then (if x5 < (x9.length : Int) then (sapperref13_Array.l0 k x0 (x9.set (x5 : Int).toNat x4) x11 (wrap64 (x12 + 1))) else (none)) else (none))
end
def sapperref13_Array.f (k : Nat) (l0 : List Int) : Option (List Int):=if 0≤(l0.length : Int) then (if ((l0.length : Int) : Int).toNat≤35184372088832 then (sapperref13_Array.l0 k l0 (List.replicate ((l0.length : Int) : Int).toNat 0) (l0.length : Int) 0) else (none)) else (none)
theorem sapperref13_Array.mono_l : ∀ k,(∀ y0 y1 y2 y3,LeO (sapperref13_Array.l0 k y0 y1 y2 y3) (sapperref13_Array.l0 (k + 1) y0 y1 y2 y3))∧(∀ y0 y1 y2 y3 y4 y5 y6 y7,LeO (sapperref13_Array.l1 k y0 y1 y2 y3 y4 y5 y6 y7) (sapperref13_Array.l1 (k + 1) y0 y1 y2 y3 y4 y5 y6 y7))
 | 0=>⟨fun _ _ _ _ r h=>by simp [sapperref13_Array.l0] at h,fun _ _ _ _ _ _ _ _ r h=>by simp [sapperref13_Array.l1] at h⟩
 | k + 1=>by
  obtain ⟨ih0,ih1⟩:=sapperref13_Array.mono_l k
  refine ⟨?_,?_⟩
  intro y0 y1 y2 y3; unfold sapperref13_Array.l0; rotate_left
  intro y0 y1 y2 y3 y4 y5 y6 y7; unfold sapperref13_Array.l1; rotate_left
  all_goals
   repeat' first
   | (with_reducible exact ih0 _ _ _ _)
   | (with_reducible exact ih1 _ _ _ _ _ _ _ _)
   | (with_reducible exact LeO.refl _)
   | (with_reducible exact LeO.none _)
   | (with_reducible refine LeO.ite ?_ ?_)
   | (with_reducible refine LeO.bind ?_ (fun _=>?_))
   | exact ih0 _ _ _ _
   | exact ih1 _ _ _ _ _ _ _ _
   | exact LeO.none _
   | refine LeO.ite ?_ ?_
   | refine LeO.bind ?_ (fun _=>?_)
theorem sapperref13_Array.mono : ∀ a0 k,LeO (sapperref13_Array.f k a0) (sapperref13_Array.f (k + 1) a0):=by
 intro a0 k
 obtain ⟨ih0,ih1⟩:=sapperref13_Array.mono_l k
 unfold sapperref13_Array.f
 repeat' first
   | (with_reducible exact ih0 _ _ _ _)
   | (with_reducible exact ih1 _ _ _ _ _ _ _ _)
   | (with_reducible exact LeO.refl _)
   | (with_reducible exact LeO.none _)
   | (with_reducible refine LeO.ite ?_ ?_)
   | (with_reducible refine LeO.bind ?_ (fun _=>?_))
   | exact ih0 _ _ _ _
   | exact ih1 _ _ _ _ _ _ _ _
   | exact LeO.none _
   | refine LeO.ite ?_ ?_
   | refine LeO.bind ?_ (fun _=>?_)
set_option maxHeartbeats 8000000 in
set_option maxRecDepth 100000 in
theorem sapperref13_Array.calls (k : Nat) (A0 : Option Addr) (c0 : Nat) (l0 : List Int) (r : List Int) (w : World) (hr0 : Kd.C (Kd.int .u8) w A0 l0.length l0) (hc0 : l0.length≤c0) (h : sapperref13_Array.f k l0 = some r) :
  Calls Try.prog 28 #[.slice A0 l0.length c0] w fun e w'=>∃ v0_ : Value,e = .returned (v0_)∧Kd.R (Kd.int .i64) 3 w' w.heap.size (fun _=>True) v0_ r∧Below w.heap.size w w':=by
 have HR0:=Aside0.mk hr0
 have HC0:=Aside0.mk hc0
 clear hr0 hc0
 have HB:=Aside0.mk (Below.refl w.heap.size w)
 have H : (if 0≤(l0.length : Int) then (if ((l0.length : Int) : Int).toNat≤35184372088832 then (sapperref13_Array.l0 k l0 (List.replicate ((l0.length : Int) : Int).toNat 0) (l0.length : Int) 0) else (none)) else (none)) = some r:=h
 clear h
 by_cases c2 : 0≤(l0.length : Int)
 ·rw [if_pos c2] at H
  have c2b0:=eq_true c2
  have c2b1 : decide (0≤(l0.length : Int)) = true:=decide_eq_true c2
  clear c2
  by_cases c3 : ((l0.length : Int) : Int).toNat≤35184372088832
  ·rw [if_pos c3] at H
   have c3b0:=eq_true c3
   have c3b1 : decide (((l0.length : Int) : Int).toNat≤35184372088832) = true:=decide_eq_true c3
   clear c3
   obtain ⟨y306,hy306⟩ : ∃ y_ : List Int,y_ = (List.replicate ((l0.length : Int) : Int).toNat 0):=⟨_,rfl⟩
   replace H : (sapperref13_Array.l0 k l0 y306 (l0.length : Int) 0) = some r:=by first | (rw [hy306]; with_reducible exact H) | (have H2_:=(Option.bind_some _ _).symm.trans H; rw [hy306]; with_reducible exact H2_) | (have H2_:=(Option.bind_some _ _).symm.trans H; with_reducible exact H2_) | with_reducible exact H | (rw [hy306]; exact H) | exact H
   have Ny306:=Aside0.mk hy306
   clear hy306
   have H':=Aside0.mk H
   clear H
   go_enter Try.func28,Try.ntmps28
   go_wp2_with (first | (refine gate_dst (N:=9) rfl ?_; refine Kd.R_make (Kd.int .i64) _ 3 rfl (N:=9) rfl 34 _ _ rfl (l0.length : Int) rfl rfl Try.underlying34 (.int .i64 0) 8 info3 rfl (by decide) (by omega) 0 (ok:=fun _=>True) (okp:=fun _=>True) rfl (fun _ hk=>hk) trivial (Qt) (Nat.le_trans (Nat.mul_le_mul_right _ (Qt : (l0.length : Int).toNat≤35184372088832)) (by omega)) (Below.refl _ _) (Nat.le_refl _) ?_; intro v307 w4 ho5 hb hg_ hnew_; clear hg_ hnew_; (first | rw [← Ny306.out] at ho5 | (simp only [Int.reduceToNat] at ho5; rw [← Ny306.out] at ho5)); have n0_:=Aside0.mk (Kd.R_lower ho5 (below_size HB.out)); have n1_:=Aside0.mk (below_step HB.out hb); clear HB; have HO308:=n0_; have HB:=n1_; clear n0_ n1_; clear hb ho5))
   go_loopg [12] k (fun kq v12 w'=>∃ (x9_1 : List Int) (x12_1 : Int),v12 = .int .i64 x12_1∧Aside0 (sapperref13_Array.l0 kq l0 x9_1 (l0.length : Int) x12_1 = some r)∧Aside0 (kq≤k)∧Aside0 (Kd.R (Kd.int .i64) 3 w' w.heap.size (fun _=>True) v307 x9_1)∧Aside0 (Below w.heap.size w w'))
   case atStart=>exact ⟨(y306),(0),(rfl),H',⟨Nat.le_refl _⟩,⟨by (with_reducible repeat first|apply Qa|apply Qb|apply Qc); exact HO308.out⟩,⟨HB.out⟩⟩
   case round =>
    clear H'
    try clear c2
    try clear c2b0
    try clear c2b1
    try clear p2
    try clear c3
    try clear c3b0
    try clear c3b1
    obtain ⟨x9_1,x12_1,rfl,HA,HK1,HO_9,HB⟩:=hrel
    cases gk with
    | zero=>exact absurd HA.out (by simp [sapperref13_Array.l0])
    | succ k1 =>
     have H:=HA.out
     clear HA
     simp only [sapperref13_Array.l0] at H
     by_cases c6 : x12_1 < (l0.length : Int)
     ·rw [if_pos c6] at H
      have c6b0 : decide (x12_1 < (l0.length : Int)) = true:=decide_eq_true c6
      clear c6
      have H':=Aside0.mk H
      clear H
      go_wp2
      go_loopg [5,17] k1 (fun kq v5 v17 w'=>∃ (x5_2 : Int) (x17_2 : Int),v5 = .int .i64 x5_2∧v17 = .int .i64 x17_2∧Aside0 (sapperref13_Array.l1 kq l0 x12_1 x5_2 x9_1 (l0.length : Int) x12_1 (l0.length : Int) x17_2 = some r)∧Aside0 (kq≤k1)∧Aside0 (Kd.R (Kd.int .i64) 3 w' w.heap.size (fun _=>True) v307 x9_1)∧Aside0 (Below w.heap.size w w'))
      case atStart=>exact ⟨(0),(0),(rfl),(rfl),H',⟨Nat.le_refl _⟩,⟨by (with_reducible repeat first|apply Qa|apply Qb|apply Qc); exact HO_9.out⟩,⟨HB.out⟩⟩
      case round =>
       clear H'
       try clear c2
       try clear c2b0
       try clear c2b1
       try clear p2
       try clear c3
       try clear c3b0
       try clear c3b1
       try clear c6
       try clear c6b0
       try clear p2
       obtain ⟨x5_2,x17_2,rfl,rfl,HA,HK2,HO_9,HB⟩:=hrel
       cases gk with
       | zero=>exact absurd HA.out (by simp [sapperref13_Array.l1])
       | succ k2 =>
        have H:=HA.out
        clear HA
        simp only [sapperref13_Array.l1] at H
        by_cases c7 : x17_2 < (l0.length : Int)
        ·rw [if_pos c7] at H
         have c7b0 : decide (x17_2 < (l0.length : Int)) = true:=decide_eq_true c7
         clear c7
         by_cases c8 : 0≤x17_2
         ·rw [if_pos c8] at H
          have c8b0:=eq_true c8
          have c8b1 : decide (0≤x17_2) = true:=decide_eq_true c8
          clear c8
          by_cases c9 : x17_2≤(l0.length : Int)
          ·rw [if_pos c9] at H
           have c9b0:=eq_true c9
           have c9b1 : decide (x17_2≤(l0.length : Int)) = true:=decide_eq_true c9
           clear c9
           by_cases c10 : 0≤x12_1
           ·rw [if_pos c10] at H
            have c10b0:=eq_true c10
            have c10b1 : decide (0≤x12_1) = true:=decide_eq_true c10
            clear c10
            by_cases c11 : x12_1≤(l0.length : Int)
            ·rw [if_pos c11] at H
             have c11b0:=eq_true c11
             have c11b1 : decide (x12_1≤(l0.length : Int)) = true:=decide_eq_true c11
             clear c11
             by_cases c12 : (Op.bytesLess ((strOfNums (l0.drop (x17_2 : Int).toNat)).toList) ((strOfNums (l0.drop (x12_1 : Int).toNat)).toList)) = true
             ·rw [if_pos c12] at H
              have c12b0 : (Op.bytesLess ((strOfNums (l0.drop (x17_2 : Int).toNat)).toList) ((strOfNums (l0.drop (x12_1 : Int).toNat)).toList)) = true:=c12
              clear c12
              have H':=Aside0.mk H
              clear H
              obtain ⟨i013,hi013,_,hsz13,_⟩:=info_parts info5
              obtain ⟨A13,hcut13,hA13,hC13⟩:=print_drop_of (P:=Try.prog) (Value.int .u8) 0 23 5 .i64 Try.underlying23 hi013 hsz13 A0 c0 l0 x17_2 (Qt) (Qt) HC0.out
              have HR309:=Aside0.mk (Kd.C_of_reads (h1:=fun _=>rfl) (hA13 _ (Kd.reads_of_C HR0.out)))
              have HC309:=Aside0.mk hC13
              clear hA13 hC13 hi013 hsz13
              have hcv14:=Kd.C_string (P:=Try.prog) (A:=A13) (c:=(c0 - x17_2.toNat)) Try.underlying23 Try.underlying5 Try.underlying9 (Kd.C_below HR309.out HB.out)
              (try (have hcv14k:=C_string0 (P:=Try.prog) (A:=A13) (c:=(c0 - x17_2.toNat)) Try.underlying23 Try.underlying5 Try.underlying9 (Kd.C_below HR309.out HB.out)))
              (try (have hcv14n:=C_string1 (P:=Try.prog) (A:=A13) (c:=(c0 - x17_2.toNat)) Try.underlying23 Try.underlying5 Try.underlying9 (Kd.C_below HR309.out HB.out)))
              (try (have hcv14m:=C_string2 (P:=Try.prog) (A:=A13) (c:=(c0 - x17_2.toNat)) Try.underlying23 Try.underlying5 Try.underlying9 (Kd.C_below HR309.out HB.out)))
              obtain ⟨i015,hi015,_,hsz15,_⟩:=info_parts info5
              obtain ⟨A15,hcut15,hA15,hC15⟩:=print_drop_of (P:=Try.prog) (Value.int .u8) 0 23 5 .i64 Try.underlying23 hi015 hsz15 A0 c0 l0 x12_1 (Qt) (Qt) HC0.out
              have HR310:=Aside0.mk (Kd.C_of_reads (h1:=fun _=>rfl) (hA15 _ (Kd.reads_of_C HR0.out)))
              have HC310:=Aside0.mk hC15
              clear hA15 hC15 hi015 hsz15
              have hcv16:=Kd.C_string (P:=Try.prog) (A:=A15) (c:=(c0 - x12_1.toNat)) Try.underlying23 Try.underlying5 Try.underlying9 (Kd.C_below HR310.out HB.out)
              (try (have hcv16k:=C_string0 (P:=Try.prog) (A:=A15) (c:=(c0 - x12_1.toNat)) Try.underlying23 Try.underlying5 Try.underlying9 (Kd.C_below HR310.out HB.out)))
              (try (have hcv16n:=C_string1 (P:=Try.prog) (A:=A15) (c:=(c0 - x12_1.toNat)) Try.underlying23 Try.underlying5 Try.underlying9 (Kd.C_below HR310.out HB.out)))
              (try (have hcv16m:=C_string2 (P:=Try.prog) (A:=A15) (c:=(c0 - x12_1.toNat)) Try.underlying23 Try.underlying5 Try.underlying9 (Kd.C_below HR310.out HB.out)))
              go_wp2
              repeat (go_quiet (fail); try go_wp2)
              go_roundg k2
              case measure=>have:=HK1.out; have:=HK2.out; omega
              case rel=>exact ⟨(wrap64 (x5_2 + 1)),(wrap64 (x17_2 + 1)),(by first | rfl | (simp; done) | (simp [*]; done)),(by first | rfl | (simp; done) | (simp [*]; done)),H',⟨by have:=HK1.out; have:=HK2.out; omega⟩,⟨by (with_reducible repeat first|apply Qa|apply Qb|apply Qc); exact HO_9.out⟩,⟨by repeat first|(with_reducible first|exact HB.out|apply Qg|apply Qh|apply Qi)|exact HB.out⟩⟩
             ·rw [if_neg c12] at H
              have c12b0 : (Op.bytesLess ((strOfNums (l0.drop (x17_2 : Int).toNat)).toList) ((strOfNums (l0.drop (x12_1 : Int).toNat)).toList)) = false:=by simpa using c12
              clear c12
              have H':=Aside0.mk H
              clear H
              obtain ⟨i017,hi017,_,hsz17,_⟩:=info_parts info5
              obtain ⟨A17,hcut17,hA17,hC17⟩:=print_drop_of (P:=Try.prog) (Value.int .u8) 0 23 5 .i64 Try.underlying23 hi017 hsz17 A0 c0 l0 x17_2 (Qt) (Qt) HC0.out
              have HR309:=Aside0.mk (Kd.C_of_reads (h1:=fun _=>rfl) (hA17 _ (Kd.reads_of_C HR0.out)))
              have HC309:=Aside0.mk hC17
              clear hA17 hC17 hi017 hsz17
              have hcv18:=Kd.C_string (P:=Try.prog) (A:=A17) (c:=(c0 - x17_2.toNat)) Try.underlying23 Try.underlying5 Try.underlying9 (Kd.C_below HR309.out HB.out)
              (try (have hcv18k:=C_string0 (P:=Try.prog) (A:=A17) (c:=(c0 - x17_2.toNat)) Try.underlying23 Try.underlying5 Try.underlying9 (Kd.C_below HR309.out HB.out)))
              (try (have hcv18n:=C_string1 (P:=Try.prog) (A:=A17) (c:=(c0 - x17_2.toNat)) Try.underlying23 Try.underlying5 Try.underlying9 (Kd.C_below HR309.out HB.out)))
              (try (have hcv18m:=C_string2 (P:=Try.prog) (A:=A17) (c:=(c0 - x17_2.toNat)) Try.underlying23 Try.underlying5 Try.underlying9 (Kd.C_below HR309.out HB.out)))
              obtain ⟨i019,hi019,_,hsz19,_⟩:=info_parts info5
              obtain ⟨A19,hcut19,hA19,hC19⟩:=print_drop_of (P:=Try.prog) (Value.int .u8) 0 23 5 .i64 Try.underlying23 hi019 hsz19 A0 c0 l0 x12_1 (Qt) (Qt) HC0.out
              have HR310:=Aside0.mk (Kd.C_of_reads (h1:=fun _=>rfl) (hA19 _ (Kd.reads_of_C HR0.out)))
              have HC310:=Aside0.mk hC19
              clear hA19 hC19 hi019 hsz19
              have hcv20:=Kd.C_string (P:=Try.prog) (A:=A19) (c:=(c0 - x12_1.toNat)) Try.underlying23 Try.underlying5 Try.underlying9 (Kd.C_below HR310.out HB.out)
              (try (have hcv20k:=C_string0 (P:=Try.prog) (A:=A19) (c:=(c0 - x12_1.toNat)) Try.underlying23 Try.underlying5 Try.underlying9 (Kd.C_below HR310.out HB.out)))
              (try (have hcv20n:=C_string1 (P:=Try.prog) (A:=A19) (c:=(c0 - x12_1.toNat)) Try.underlying23 Try.underlying5 Try.underlying9 (Kd.C_below HR310.out HB.out)))
              (try (have hcv20m:=C_string2 (P:=Try.prog) (A:=A19) (c:=(c0 - x12_1.toNat)) Try.underlying23 Try.underlying5 Try.underlying9 (Kd.C_below HR310.out HB.out)))
              go_wp2
              repeat (go_quiet (fail); try go_wp2)
              go_roundg k2
              case measure=>have:=HK1.out; have:=HK2.out; omega
              case rel=>exact ⟨(x5_2),(wrap64 (x17_2 + 1)),(by first | rfl | (simp; done) | (simp [*]; done)),(by first | rfl | (simp; done) | (simp [*]; done)),H',⟨by have:=HK1.out; have:=HK2.out; omega⟩,⟨by (with_reducible repeat first|apply Qa|apply Qb|apply Qc); exact HO_9.out⟩,⟨by repeat first|(with_reducible first|exact HB.out|apply Qg|apply Qh|apply Qi)|exact HB.out⟩⟩
            ·rw [if_neg c11] at H
             exact absurd H (by simp)
           ·rw [if_neg c10] at H
            exact absurd H (by simp)
          ·rw [if_neg c9] at H
           exact absurd H (by simp)
         ·rw [if_neg c8] at H
          exact absurd H (by simp)
        ·rw [if_neg c7] at H
         have c7b0 : decide (x17_2 < (l0.length : Int)) = false:=decide_eq_false c7
         clear c7
         by_cases c21 : 0≤x5_2
         ·rw [if_pos c21] at H
          have c21b0 : decide (0≤x5_2) = true:=decide_eq_true c21
          clear c21
          by_cases c22 : x5_2 < (x9_1.length : Int)
          ·rw [if_pos c22] at H
           have c22b0 : decide (x5_2 < (x9_1.length : Int)) = true:=decide_eq_true c22
           clear c22
           obtain ⟨y311,hy311⟩ : ∃ y_ : List Int,y_ = (x9_1.set (x5_2 : Int).toNat x12_1):=⟨_,rfl⟩
           replace H : (sapperref13_Array.l0 k2 l0 y311 (l0.length : Int) (wrap64 (x12_1 + 1))) = some r:=by first | (rw [hy311]; with_reducible exact H) | (have H2_:=(Option.bind_some _ _).symm.trans H; rw [hy311]; with_reducible exact H2_) | (have H2_:=(Option.bind_some _ _).symm.trans H; with_reducible exact H2_) | with_reducible exact H | (rw [hy311]; exact H) | exact H
           have Ny311:=Aside0.mk hy311
           clear hy311
           have H':=Aside0.mk H
           clear H
           have p23 : 0≤(x5_2 : Int):=Qt
           have q23 : (x5_2 : Int) < ((x9_1.length : Int) : Int):=Qt
           obtain ⟨go23,co23,eo23,gb23,gl23,cl23,HG23⟩:=Kd.R_form HO_9.out (by omega)
           (first | cases eo23 | (injection eo23 with ea_ en_ ec_; (first | subst ea_ | (injection ea_ with ea_; subst ea_)); subst ec_; clear en_))
           have GB23:=Aside0.mk gb23
           have GG23:=Aside0.mk HG23
           clear gb23 gl23 HG23
           obtain ⟨hx23_0,hf23_0⟩:=Kd.R_celln 0 HO_9.out (x5_2 : Int) p23 q23
           replace p23:=eq_true p23
           replace q23:=eq_true q23
           have HP24:=Kd.R_putg HO_9.out (x5_2 : Int) x12_1
           go_wp2_with (first | ((with_reducible refine gate_store (t:=3) (p:=35) rfl ?_); (try (rw [drewN_self wr]; generalize hq_ : World.drewN wr _ = wr; have n0_:=Aside0.mk (Kd.R_at hq_ HO_9.out); have n1_:=Aside0.mk (below_at hq_ HB.out); clear hq_ HO_9 HB; have HO_9:=n0_; have HB:=n1_; clear n0_ n1_; (try (have HP24:=Kd.R_putg HO_9.out (x5_2 : Int) x12_1)))); refine store_event (t:=3) (p:=35) (v:=?vo_w25) (w1:=(wr.setCell ⟨go23,(x5_2 : Int).toNat,none⟩ (.int .i64 x12_1))) ?hg ?ho ?hn ?hr ?_; (case ho=>rfl); (case hg=>rfl); (case hn=>rfl); (case hr=>first | (go_simp; done) | (go_simp; rfl)); intro w25 hw; have hg : wr.grownBy w25 (some go23):=(by rw [hw]; exact HP24.2); have hp_ : Kd.R (Kd.int .i64) 3 w25 w.heap.size (fun _=>True) (.slice (some ⟨go23,0,none⟩) x9_1.length co23) y311:=(by rw [hw,Ny311.out]; exact HP24.1); clear HP24; have n0_:=Aside0.mk (hp_); have n1_:=Aside0.mk ((by rw [hw]; exact below_set (HB.out) GB23.out : Below w.heap.size w w25)); clear HO_9; clear HB; have HO_9:=n0_; have HB:=n1_; clear n0_ n1_; clear hg hw hp_))
           go_roundg k2
           case measure=>have:=HK1.out; have:=HK2.out; omega
           case rel=>exact ⟨(y311),(wrap64 (x12_1 + 1)),(rfl),H',⟨by have:=HK1.out; have:=HK2.out; omega⟩,⟨by (with_reducible repeat first|apply Qa|apply Qb|apply Qc); exact HO_9.out⟩,⟨HB.out⟩⟩
          ·rw [if_neg c22] at H
           exact absurd H (by simp)
         ·rw [if_neg c21] at H
          exact absurd H (by simp)
     ·rw [if_neg c6] at H
      have c6b0 : decide (x12_1 < (l0.length : Int)) = false:=decide_eq_false c6
      clear c6
      obtain rfl:=Option.some.inj H
      go_wp2
      go_ret
      exact ⟨_,rfl,by (with_reducible repeat first|apply Qa|apply Qb|apply Qc); exact HO_9.out,HB.out⟩
  ·rw [if_neg c3] at H
   exact absurd H (by simp)
 ·rw [if_neg c2] at H
  exact absurd H (by simp)

end Go.Proofs.Ythcnnfahlhklgaa.X
