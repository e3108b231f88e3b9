-- Printed by wip/xprint.py of this repo (a wrapper of the session's own round the print).
import Derived.Test.YthcnnfahlhklgaaXx0
import Derived.Test.YthcnnfahlhklgaaXBA
import Derived.Test.YthcnnfahlhklgaaXx24
import Derived.Test.YthcnnfahlhklgaaXx26
import Derived.Test.YthcnnfahlhklgaaXx50
import Derived.Test.YthcnnfahlhklgaaXx51
namespace Go.Proofs.Ythcnnfahlhklgaa.X
open Go.RowKit Go.Proofs.YthcnnfahlhklgaaW.PrintWords Go.Proofs.YthcnnfahlhklgaaW.PrintLast Go.Proofs.YthcnnfahlhklgaaW.PrintMore
attribute [local go_sem] ptrOf_eql ptrOf_neq ptrOf_eqg ptrOf_neg str_leq str_geq str_gtr max2_int min2_int max_two min_two max_three min_three max_four min_four   -- for this text's walks alone
set_option linter.unusedVariables false
set_option linter.unusedSimpArgs false

/-! ### sapperref13_Repeats: function 49 -/
mutual
def sapperref13_Repeats.l0 : Nat→List Int→Int→List (S79)→List Int→List Int→Int→Int→Option ((List (S79)))
 | 0,_,_,_,_,_,_,_=>none
 | k + 1,x0,x1,x5,x16,x18,x20,x21=>if x21 < x20 then (if 0≤x21 then (if x21 < (x16.length : Int) then (if x21 < (x18.length : Int) then (sapperref13_Repeats.l1 k x0 x1 x5 (rd x16 x21) (wrap64 ((rd x18 x21) + 1)) x16 x18 x20 x21) else (none)) else (none)) else (none)) else (some x5)
def sapperref13_Repeats.l1 : Nat→List Int→Int→List (S79)→Int→Int→List Int→List Int→Int→Int→Option ((List (S79)))
 | 0,_,_,_,_,_,_,_,_,_=>none
 | k + 1,x0,x1,x5,x9,x10,x16,x18,x20,x21=>if x10≤(wrap64 ((x0.length : Int) - x9)) then (if 0≤x9 then (if x9≤(wrap64 (x9 + x10)) then (if (wrap64 (x9 + x10))≤(x0.length : Int) then ((sapperref13_count.f k x0 ((x0.take ((wrap64 (x9 + x10)) : Int).toNat).drop (x9 : Int).toNat)).bind fun t360=>(if x10 < x1 then (sapperref13_Repeats.j2 k x0 x1 x5 x9 x10 ((x0.take ((wrap64 (x9 + x10)) : Int).toNat).drop (x9 : Int).toNat) t360 x16 x18 x20 x21 true) else (sapperref13_Repeats.j2 k x0 x1 x5 x9 x10 ((x0.take ((wrap64 (x9 + x10)) : Int).toNat).drop (x9 : Int).toNat) t360 x16 x18 x20 x21 (decide (t360 < 2))))) else (none)) else (none)) else (none)) else (sapperref13_Repeats.l0 k x0 x1 x5 x16 x18 x20 (wrap64 (x21 + 1)))
def sapperref13_Repeats.j2 : Nat→List Int→Int→List (S79)→Int→Int→List Int→Int→List Int→List Int→Int→Int→Bool→Option ((List (S79)))
 | 0,_,_,_,_,_,_,_,_,_,_,_,_=>none
 | k + 1,x0,x1,x5,x9,x10,x11,x12,x16,x18,x20,x21,x54=>if x54 = true then (sapperref13_Repeats.l1 k x0 x1 x5 x9 (wrap64 (x10 + 1)) x16 x18 x20 x21) else ((sapperref13_repeat.f k x0 x11 x12).bind fun bt361=>(if bt361.2.2.2 = true then (if x5.length < 5864062014805 then (sapperref13_Repeats.l1 k x0 x1 (x5 ++ [(⟨bt361.1,bt361.2.1,bt361.2.2.1⟩ : S79)]) x9 (wrap64 (x10 + 1)) x16 x18 x20 x21) else (none)) else (sapperref13_Repeats.l1 k x0 x1 x5 x9 (wrap64 (x10 + 1)) x16 x18 x20 x21)))
end
def sapperref13_Repeats.f (k : Nat) (l0 : List Int) (a1 : Int) : Option ((List (S79))):=(sapperref13_Array.f k l0).bind fun t351=>((sapperref13_Lcp.f k l0).bind fun t354=>(sapperref13_Repeats.l0 k l0 a1 ([] : List (S79)) t351 t354 (t351.length : Int) 0))
theorem sapperref13_Repeats.mono_l : ∀ k,(∀ y0 y1 y2 y3 y4 y5 y6,LeO (sapperref13_Repeats.l0 k y0 y1 y2 y3 y4 y5 y6) (sapperref13_Repeats.l0 (k + 1) y0 y1 y2 y3 y4 y5 y6))∧(∀ y0 y1 y2 y3 y4 y5 y6 y7 y8,LeO (sapperref13_Repeats.l1 k y0 y1 y2 y3 y4 y5 y6 y7 y8) (sapperref13_Repeats.l1 (k + 1) y0 y1 y2 y3 y4 y5 y6 y7 y8))∧(∀ y0 y1 y2 y3 y4 y5 y6 y7 y8 y9 y10 y11,LeO (sapperref13_Repeats.j2 k y0 y1 y2 y3 y4 y5 y6 y7 y8 y9 y10 y11) (sapperref13_Repeats.j2 (k + 1) y0 y1 y2 y3 y4 y5 y6 y7 y8 y9 y10 y11))
 | 0=>⟨fun _ _ _ _ _ _ _ r h=>by simp [sapperref13_Repeats.l0] at h,fun _ _ _ _ _ _ _ _ _ r h=>by simp [sapperref13_Repeats.l1] at h,fun _ _ _ _ _ _ _ _ _ _ _ _ r h=>by simp [sapperref13_Repeats.j2] at h⟩
 | k + 1=>by
  obtain ⟨ih0,ih1,ih2⟩:=sapperref13_Repeats.mono_l k
  refine ⟨?_,?_,?_⟩
  intro y0 y1 y2 y3 y4 y5 y6; unfold sapperref13_Repeats.l0; rotate_left
  intro y0 y1 y2 y3 y4 y5 y6 y7 y8; unfold sapperref13_Repeats.l1; rotate_left
  intro y0 y1 y2 y3 y4 y5 y6 y7 y8 y9 y10 y11; unfold sapperref13_Repeats.j2; rotate_left
  all_goals
   repeat' first
   | (with_reducible exact ih0 _ _ _ _ _ _ _)
   | (with_reducible exact ih1 _ _ _ _ _ _ _ _ _)
   | (with_reducible exact ih2 _ _ _ _ _ _ _ _ _ _ _ _)
   | (with_reducible exact sapperref13_Array.mono _ _)
   | (with_reducible exact sapperref13_Lcp.mono _ _)
   | (with_reducible exact sapperref13_count.mono _ _ _)
   | (with_reducible exact sapperref13_repeat.mono _ _ _ _)
   | (with_reducible exact LeO.refl _)
   | (with_reducible exact LeO.none _)
   | (with_reducible refine LeO.ite ?_ ?_)
   | (with_reducible refine LeO.bind ?_ (fun _=>?_))
   | exact ih0 _ _ _ _ _ _ _
   | exact ih1 _ _ _ _ _ _ _ _ _
   | exact ih2 _ _ _ _ _ _ _ _ _ _ _ _
   | exact sapperref13_Array.mono _ _
   | exact sapperref13_Lcp.mono _ _
   | exact sapperref13_count.mono _ _ _
   | exact sapperref13_repeat.mono _ _ _ _
   | exact LeO.none _
   | refine LeO.ite ?_ ?_
   | refine LeO.bind ?_ (fun _=>?_)
theorem sapperref13_Repeats.mono : ∀ a0 a1 k,LeO (sapperref13_Repeats.f k a0 a1) (sapperref13_Repeats.f (k + 1) a0 a1):=by
 intro a0 a1 k
 obtain ⟨ih0,ih1,ih2⟩:=sapperref13_Repeats.mono_l k
 unfold sapperref13_Repeats.f
 repeat' first
   | (with_reducible exact ih0 _ _ _ _ _ _ _)
   | (with_reducible exact ih1 _ _ _ _ _ _ _ _ _)
   | (with_reducible exact ih2 _ _ _ _ _ _ _ _ _ _ _ _)
   | (with_reducible exact sapperref13_Array.mono _ _)
   | (with_reducible exact sapperref13_Lcp.mono _ _)
   | (with_reducible exact sapperref13_count.mono _ _ _)
   | (with_reducible exact sapperref13_repeat.mono _ _ _ _)
   | (with_reducible exact LeO.refl _)
   | (with_reducible exact LeO.none _)
   | (with_reducible refine LeO.ite ?_ ?_)
   | (with_reducible refine LeO.bind ?_ (fun _=>?_))
   | exact ih0 _ _ _ _ _ _ _
   | exact ih1 _ _ _ _ _ _ _ _ _
   | exact ih2 _ _ _ _ _ _ _ _ _ _ _ _
   | exact sapperref13_Array.mono _ _
   | exact sapperref13_Lcp.mono _ _
   | exact sapperref13_count.mono _ _ _
   | exact sapperref13_repeat.mono _ _ _ _
   | exact LeO.none _
   | refine LeO.ite ?_ ?_
   | refine LeO.bind ?_ (fun _=>?_)
set_option maxHeartbeats 8000000 in
set_option maxRecDepth 100000 in
theorem sapperref13_Repeats.calls (k : Nat) (A0 : Option Addr) (c0 : Nat) (l0 : List Int) (a1 : Int) (r : List (S79)) (w : World) (hr0 : Kd.C (Kd.int .u8) w A0 l0.length l0) (hc0 : l0.length≤c0) (h : sapperref13_Repeats.f k l0 a1 = some r) :
  Calls Try.prog 49 #[.slice A0 l0.length c0,.int .i64 a1] w fun e w'=>∃ v0_ : Value,e = .returned (v0_)∧Kd.R k79 79 w' w.heap.size (fun _=>True) v0_ r∧Below w.heap.size w w':=by
 have hu79:=Try.underlying79
 have HR0:=Aside0.mk hr0
 have HC0:=Aside0.mk hc0
 clear hr0 hc0
 have HB:=Aside0.mk (Below.refl w.heap.size w)
 have H : ((sapperref13_Array.f k l0).bind fun t351=>((sapperref13_Lcp.f k l0).bind fun t354=>(sapperref13_Repeats.l0 k l0 a1 ([] : List (S79)) t351 t354 (t351.length : Int) 0))) = some r:=h
 clear h
 replace H:=Option.bind_eq_some_iff.mp H
 obtain ⟨t351,A30,H⟩:=H
 replace H : ((sapperref13_Lcp.f k l0).bind fun t354=>(sapperref13_Repeats.l0 k l0 a1 ([] : List (S79)) t351 t354 (t351.length : Int) 0)) = some r:=H
 have A3:=Aside0.mk A30
 clear A30
 replace H:=Option.bind_eq_some_iff.mp H
 obtain ⟨t354,A40,H⟩:=H
 replace H : (sapperref13_Repeats.l0 k l0 a1 ([] : List (S79)) t351 t354 (t351.length : Int) 0) = some r:=H
 have A4:=Aside0.mk A40
 clear A40
 have H':=Aside0.mk H
 clear H
 go_enter Try.func49,Try.ntmps49
 go_wp2_with (first | ((with_reducible refine gate_callee (f:=28) rfl ?_); refine goesL_ (some 16) rfl rfl Try.func28 (by kernel_rfl) rfl #[.slice A0 l0.length c0] rfl (by (try simp only [List.map_toArray,List.map_cons,List.map_nil]); first | done | rfl | (simp only [List.length_drop,List.length_take]; rfl)) ?_; (with_reducible refine (sapperref13_Array.calls k _ _ l0 t351 _ ?side1 ?side2 A3.out).mono ?_); (case side1=>repeat (first | exact HR0.out | (with_reducible first|refine Qd ?_ _|refine Qe ?_ _|refine Qf ?_))); (case side2=>exact HC0.out); rintro e w5 ⟨v352,rfl,ho0,hb⟩; refine ⟨_,rfl,?_⟩; have n0_:=Aside0.mk (Kd.R_lower ho0 (below_size (by repeat first|(with_reducible first|exact HB.out|apply Qg|apply Qh|apply Qi)|exact HB.out))); have n1_:=Aside0.mk (below_step (by repeat first|(with_reducible first|exact HB.out|apply Qg|apply Qh|apply Qi)|exact HB.out) hb); clear HB; have HO353:=n0_; have HB:=n1_; clear n0_ n1_; (try clear hb); (try clear hb2); (try clear hk); (try clear hi); (try clear ho0)) | ((with_reducible refine gate_callee (f:=29) rfl ?_); refine goesL_ (some 18) rfl rfl Try.func29 (by kernel_rfl) rfl #[.slice A0 l0.length c0] rfl (by (try simp only [List.map_toArray,List.map_cons,List.map_nil]); first | done | rfl | (simp only [List.length_drop,List.length_take]; rfl)) ?_; (with_reducible refine (sapperref13_Lcp.calls k _ _ l0 t354 _ ?side1 ?side2 A4.out).mono ?_); (case side1=>repeat (first | exact (Kd.C_below HR0.out HB.out) | (with_reducible first|refine Qd ?_ _|refine Qe ?_ _|refine Qf ?_))); (case side2=>exact HC0.out); rintro e w6 ⟨v355,rfl,ho0,hb⟩; refine ⟨_,rfl,?_⟩; have n0_:=Aside0.mk (Kd.R_elder' (by (with_reducible repeat first|apply Qa|apply Qb|apply Qc); exact HO353.out) (Kd.R_base ho0) hb); have n1_:=Aside0.mk (Kd.R_lower (Kd.R_new' ho0 (Kd.R_lt (by (with_reducible repeat first|apply Qa|apply Qb|apply Qc); exact HO353.out))) (below_size (by repeat first|(with_reducible first|exact HB.out|apply Qg|apply Qh|apply Qi)|exact HB.out))); have n2_:=Aside0.mk (below_step (by repeat first|(with_reducible first|exact HB.out|apply Qg|apply Qh|apply Qi)|exact HB.out) hb); clear HO353; clear HB; have HO353:=n0_; have HO356:=n1_; have HB:=n2_; clear n0_ n1_ n2_; (try clear hb); (try clear hb2); (try clear hk); (try clear hi); (try clear ho0); obtain ⟨Ao7,co7,eo7⟩:=Kd.R_slice HO353.out; subst eo7))
 go_loopg [5,21] k (fun kq v5 v21 w'=>∃ (x5_1 : List (S79)) (x21_1 : Int),v21 = .int .i64 x21_1∧Aside0 (sapperref13_Repeats.l0 kq l0 a1 x5_1 t351 t354 (t351.length : Int) x21_1 = some r)∧Aside0 (kq≤k)∧Aside0 (Kd.R k79 79 w' w.heap.size (fun _=>True) v5 x5_1)∧Aside0 (Kd.R (Kd.int .i64) 3 w' w.heap.size (fun k_=>some k_ ≠ (v355 : Value).ownBlock) (.slice Ao7 t351.length co7) t351)∧Aside0 (Kd.R (Kd.int .i64) 3 w' w.heap.size (fun k_=>some k_ ≠ ((.slice Ao7 t351.length co7) : Value).ownBlock) v355 t354)∧Aside0 (Below w.heap.size w w'))
 case atStart=>exact ⟨(([] : List (S79))),(0),(rfl),H',⟨Nat.le_refl _⟩,⟨by first | exact Kd.R_nil _ _ _ _ _ | exact Kd.N_nil _ _ _ _ _ | exact Kd.V_nil _ _ _ _ _ | exact Kd.Q_nil _ _ _ _ _ | exact Kd.S_nil _ _ _ _ _⟩,⟨by (with_reducible repeat first|apply Qa|apply Qb|apply Qc); exact Kd.R_mono HO353.out (fun _ hk=>hk.2)⟩,⟨by (with_reducible repeat first|apply Qa|apply Qb|apply Qc); exact Kd.R_mono HO356.out (fun _ hk=>hk.2)⟩,⟨HB.out⟩⟩
 case round =>
  clear H'
  try clear c2
  try clear p2
  try clear c4
  obtain ⟨x5_1,x21_1,rfl,HA,HK1,HO_5,HO_16,HO_18,HB⟩:=hrel
  cases gk with
  | zero=>exact absurd HA.out (by simp [sapperref13_Repeats.l0])
  | succ k1 =>
   have H:=HA.out
   clear HA
   simp only [sapperref13_Repeats.l0] at H
   by_cases c8 : x21_1 < (t351.length : Int)
   ·rw [if_pos c8] at H
    have c8b0 : decide (x21_1 < (t351.length : Int)) = true:=decide_eq_true c8
    clear c8
    by_cases c9 : 0≤x21_1
    ·rw [if_pos c9] at H
     have c9b0 : decide (0≤x21_1) = true:=decide_eq_true c9
     clear c9
     by_cases c10 : x21_1 < (t351.length : Int)
     ·rw [if_pos c10] at H
      have c10b0 : decide (x21_1 < (t351.length : Int)) = true:=decide_eq_true c10
      clear c10
      by_cases c11 : x21_1 < (t354.length : Int)
      ·rw [if_pos c11] at H
       have c11b0 : decide (x21_1 < (t354.length : Int)) = true:=decide_eq_true c11
       clear c11
       have H':=Aside0.mk H
       clear H
       have p357 : 0≤(x21_1 : Int):=Qt
       have q357 : x21_1 < (t351.length : Int):=Qt
       obtain ⟨ad357,e357,hx357_0⟩:=Kd.at_int (Kd.R_reads' HO_16.out).2.2 x21_1 p357 q357
       cases e357
       replace p357:=eq_true p357
       replace q357:=eq_true q357
       obtain ⟨Ao12,co12,eo12⟩:=Kd.R_slice HO_18.out
       subst eo12
       have p358 : 0≤(x21_1 : Int):=Qt
       have q358 : x21_1 < (t354.length : Int):=Qt
       obtain ⟨ad358,e358,hx358_0⟩:=Kd.at_int (Kd.R_reads' HO_18.out).2.2 x21_1 p358 q358
       cases e358
       replace p358:=eq_true p358
       replace q358:=eq_true q358
       go_wp2
       go_loopg [5,10] k1 (fun kq v5 v10 w'=>∃ (x5_2 : List (S79)) (x10_2 : Int),v10 = .int .i64 x10_2∧Aside0 (sapperref13_Repeats.l1 kq l0 a1 x5_2 (rd t351 x21_1) x10_2 t351 t354 (t351.length : Int) x21_1 = some r)∧Aside0 (kq≤k1)∧Aside0 (Kd.R k79 79 w' w.heap.size (fun _=>True) v5 x5_2)∧Aside0 (Kd.R (Kd.int .i64) 3 w' w.heap.size (fun k_=>some k_ ≠ ((.slice (some ad358) t354.length co12) : Value).ownBlock) (.slice (some ad357) t351.length co7) t351)∧Aside0 (Kd.R (Kd.int .i64) 3 w' w.heap.size (fun k_=>some k_ ≠ ((.slice (some ad357) t351.length co7) : Value).ownBlock) (.slice (some ad358) t354.length co12) t354)∧Aside0 (Below w.heap.size w w'))
       case atStart=>exact ⟨(x5_1),(wrap64 ((rd t354 x21_1) + 1)),(by first | rfl | (simp; done) | (simp [*]; done)),H',⟨Nat.le_refl _⟩,⟨by (with_reducible repeat first|apply Qa|apply Qb|apply Qc); exact HO_5.out⟩,⟨by (with_reducible repeat first|apply Qa|apply Qb|apply Qc); exact HO_16.out⟩,⟨by (with_reducible repeat first|apply Qa|apply Qb|apply Qc); exact HO_18.out⟩,⟨by repeat first|(with_reducible first|exact HB.out|apply Qg|apply Qh|apply Qi)|exact HB.out⟩⟩
       case round =>
        clear H'
        try clear c1
        try clear c2
        try clear p2
        try clear p3
        try clear q3
        try clear hx3
        try clear c4
        try clear p6
        try clear c8
        try clear c8b0
        try clear c9
        try clear c9b0
        try clear c10
        try clear c10b0
        try clear c11
        try clear c11b0
        try clear hx357_0
        try clear hx358_0
        try clear p2
        try clear p357
        try clear p358
        try clear q357
        try clear q358
        obtain ⟨x5_2,x10_2,rfl,HA,HK2,HO_5,HO_16,HO_18,HB⟩:=hrel
        cases gk with
        | zero=>exact absurd HA.out (by simp [sapperref13_Repeats.l1])
        | succ k2 =>
         have H:=HA.out
         clear HA
         simp only [sapperref13_Repeats.l1] at H
         by_cases c13 : x10_2≤(wrap64 ((l0.length : Int) - (rd t351 x21_1)))
         ·rw [if_pos c13] at H
          have c13b0 : decide (x10_2≤(wrap64 ((l0.length : Int) - (rd t351 x21_1)))) = true:=decide_eq_true c13
          clear c13
          by_cases c14 : 0≤(rd t351 x21_1)
          ·rw [if_pos c14] at H
           have c14b0:=eq_true c14
           have c14b1 : decide (0≤(rd t351 x21_1)) = true:=decide_eq_true c14
           clear c14
           by_cases c15 : (rd t351 x21_1)≤(wrap64 ((rd t351 x21_1) + x10_2))
           ·rw [if_pos c15] at H
            have c15b0:=eq_true c15
            have c15b1 : decide ((rd t351 x21_1)≤(wrap64 ((rd t351 x21_1) + x10_2))) = true:=decide_eq_true c15
            by_cases c16 : (wrap64 ((rd t351 x21_1) + x10_2))≤(l0.length : Int)
            ·rw [if_pos c16] at H
             have c16b0:=eq_true c16
             have c16b1 : decide ((wrap64 ((rd t351 x21_1) + x10_2))≤(l0.length : Int)) = true:=decide_eq_true c16
             replace H:=Option.bind_eq_some_iff.mp H
             obtain ⟨t360,A170,H⟩:=H
             replace H : (if x10_2 < a1 then (sapperref13_Repeats.j2 k2 l0 a1 x5_2 (rd t351 x21_1) x10_2 ((l0.take ((wrap64 ((rd t351 x21_1) + x10_2)) : Int).toNat).drop ((rd t351 x21_1) : Int).toNat) t360 t351 t354 (t351.length : Int) x21_1 true) else (sapperref13_Repeats.j2 k2 l0 a1 x5_2 (rd t351 x21_1) x10_2 ((l0.take ((wrap64 ((rd t351 x21_1) + x10_2)) : Int).toNat).drop ((rd t351 x21_1) : Int).toNat) t360 t351 t354 (t351.length : Int) x21_1 (decide (t360 < 2)))) = some r:=H
             have A17:=Aside0.mk A170
             clear A170
             have HC18:=Aside0.mk H
             clear H
             obtain ⟨i019,hi019,_,hsz19,_⟩:=info_parts info5
             obtain ⟨A19,hcut19,hA19,hC19⟩:=print_mid_of (P:=Try.prog) (Value.int .u8) 0 23 5 .i64 .i64 Try.underlying23 hi019 hsz19 A0 c0 l0 (rd t351 x21_1) (wrap64 ((rd t351 x21_1) + x10_2)) (Qt) (by first | omega | exact Qt) (Qt) HC0.out
             (try (have hws28:=i64_w ((rd t351 x21_1) + x10_2)))
             have HR359:=Aside0.mk (Kd.C_of_reads (h1:=fun _=>rfl) (hA19 _ (Kd.reads_of_C HR0.out)))
             have HC359:=Aside0.mk hC19
             have HLQ : Aside0 (((l0.take ((wrap64 ((rd t351 x21_1) + x10_2)) : Int).toNat).drop ((rd t351 x21_1) : Int).toNat).length = ((wrap64 ((rd t351 x21_1) + x10_2))).toNat - ((rd t351 x21_1)).toNat):=⟨(by rw [List.length_drop,List.length_take]; have h_ : ((wrap64 ((rd t351 x21_1) + x10_2)) : Int)≤(l0.length : Int):=Qt; omega)⟩
             clear hA19 hC19 hi019 hsz19
             go_upto_region 11 with (first | ((with_reducible refine gate_callee (f:=64) rfl ?_); refine goesL_ (some 47) rfl rfl Try.func64 (by kernel_rfl) rfl #[.slice A0 l0.length c0,.slice A19 ((l0.take ((wrap64 ((rd t351 x21_1) + x10_2)) : Int).toNat).drop ((rd t351 x21_1) : Int).toNat).length (c0 - (rd t351 x21_1).toNat)] rfl (by (try simp only [List.map_toArray,List.map_cons,List.map_nil]); first | done | (rw [show ((l0.take ((wrap64 ((rd t351 x21_1) + x10_2)) : Int).toNat).drop ((rd t351 x21_1) : Int).toNat).length = ((wrap64 ((rd t351 x21_1) + x10_2)).toNat - (rd t351 x21_1).toNat) from HLQ.out] <;> rfl) | rfl | (simp only [List.length_drop,List.length_take]; rfl)) ?_; (with_reducible refine (sapperref13_count.calls k2 _ _ l0 _ _ ((l0.take ((wrap64 ((rd t351 x21_1) + x10_2)) : Int).toNat).drop ((rd t351 x21_1) : Int).toNat) t360 _ ?side1 ?side2 ?side3 ?side4 A17.out).mono ?_); (case side1=>repeat (first | exact (Kd.C_below HR0.out HB.out) | (with_reducible first|refine Qd ?_ _|refine Qe ?_ _|refine Qf ?_))); (case side2=>exact HC0.out); (case side3=>repeat (first | exact (Kd.C_below HR359.out HB.out) | (with_reducible first|refine Qd ?_ _|refine Qe ?_ _|refine Qf ?_))); (case side4=>exact HC359.out); rintro e w' ⟨rfl,⟨nd,rfl⟩⟩; refine ⟨_,rfl,?_⟩))
             (try simp only [Act.put,List.setIfInBounds_toArray,List.set_cons_zero,List.set_cons_succ])
             go_cut [54] (fun v54 wc=>∃ (kq : Nat) (x54_17 : Bool),v54 = .bool x54_17∧Aside0 (sapperref13_Repeats.j2 kq l0 a1 x5_2 (rd t351 x21_1) x10_2 ((l0.take ((wrap64 ((rd t351 x21_1) + x10_2)) : Int).toNat).drop ((rd t351 x21_1) : Int).toNat) t360 t351 t354 (t351.length : Int) x21_1 x54_17 = some r)∧Aside0 (kq≤k2)∧Aside0 (Kd.R k79 79 wc w.heap.size (fun _=>True) u5 x5_2)∧Aside0 (Kd.R (Kd.int .i64) 3 wc w.heap.size (fun k_=>some k_ ≠ ((.slice (some ad358) t354.length co12) : Value).ownBlock) (.slice (some ad357) t351.length co7) t351)∧Aside0 (Kd.R (Kd.int .i64) 3 wc w.heap.size (fun k_=>some k_ ≠ ((.slice (some ad357) t351.length co7) : Value).ownBlock) (.slice (some ad358) t354.length co12) t354)∧Aside0 (Below w.heap.size w wc))
             case first =>
              have H:=HC18.out
              clear HC18
              by_cases c20 : x10_2 < a1
              ·rw [if_pos c20] at H
               have c20b0 : decide (x10_2 < a1) = true:=decide_eq_true c20
               clear c20
               (first | rw [c20b0] | rw [c20b1] | (simp only [i64_w,i32_w]; rw [c20b0]) | skip)
               have H':=Aside0.mk H
               clear H
               go_wp2
               go_meet
               case rel=>exact ⟨_,(true),(by first | rfl | (simp; done) | (simp [*]; done)),H',⟨by have:=HK1.out; have:=HK2.out; first | omega | exact Nat.le_refl _⟩,⟨by (with_reducible repeat first|apply Qa|apply Qb|apply Qc); exact HO_5.out⟩,⟨by (with_reducible repeat first|apply Qa|apply Qb|apply Qc); exact HO_16.out⟩,⟨by (with_reducible repeat first|apply Qa|apply Qb|apply Qc); exact HO_18.out⟩,⟨by repeat first|(with_reducible first|exact HB.out|apply Qg|apply Qh|apply Qi)|exact HB.out⟩⟩
              ·rw [if_neg c20] at H
               have c20b0 : decide (x10_2 < a1) = false:=decide_eq_false c20
               clear c20
               (first | rw [c20b0] | rw [c20b1] | (simp only [i64_w,i32_w]; rw [c20b0]) | skip)
               have H':=Aside0.mk H
               clear H
               go_wp2
               go_meet
               case rel=>exact ⟨_,(decide (t360 < 2)),(by first | rfl | (simp; done) | (simp [*]; done)),H',⟨by have:=HK1.out; have:=HK2.out; first | omega | exact Nat.le_refl _⟩,⟨by (with_reducible repeat first|apply Qa|apply Qb|apply Qc); exact HO_5.out⟩,⟨by (with_reducible repeat first|apply Qa|apply Qb|apply Qc); exact HO_16.out⟩,⟨by (with_reducible repeat first|apply Qa|apply Qb|apply Qc); exact HO_18.out⟩,⟨by repeat first|(with_reducible first|exact HB.out|apply Qg|apply Qh|apply Qi)|exact HB.out⟩⟩
             case rest =>
              clear HC18
              try clear c1
              try clear c2
              try clear p2
              try clear p3
              try clear q3
              try clear hx3
              try clear c4
              try clear c6
              try clear p6
              try clear c8
              try clear c8b0
              try clear c9
              try clear c9b0
              try clear c10
              try clear c10b0
              try clear c11
              try clear c11b0
              try clear c13
              try clear c13b0
              try clear c14
              try clear c14b0
              try clear c14b1
              try clear c15
              try clear c15b0
              try clear c15b1
              try clear c16
              try clear c16b0
              try clear c16b1
              try clear c20
              try clear c20b0
              try clear hx357_0
              try clear hx358_0
              try clear p2
              try clear p3
              try clear p357
              try clear p358
              try clear p6
              try clear q3
              try clear q357
              try clear q358
              obtain ⟨kq,x54_17,rfl,HA,HJ17,HO_5,HO_16,HO_18,HB⟩:=hcut
              cases kq with
              | zero=>exact absurd HA.out (by simp [sapperref13_Repeats.j2])
              | succ kj17 =>
               have H:=HA.out
               clear HA
               simp only [sapperref13_Repeats.j2] at H
               by_cases c21 : x54_17 = true
               ·subst c21
                have H1 : (sapperref13_Repeats.l1 kj17 l0 a1 x5_2 (rd t351 x21_1) (wrap64 (x10_2 + 1)) t351 t354 (t351.length : Int) x21_1) = some r:=by rw [if_pos rfl] at H; exact H
                clear H
                have H:=H1
                clear H1
                have H':=Aside0.mk H
                clear H
                go_wp2
                go_roundg kj17
                case measure=>have:=HK1.out; have:=HK2.out; have:=HJ17.out; omega
                case rel=>exact ⟨(x5_2),(wrap64 (x10_2 + 1)),(by first | rfl | (simp; done) | (simp [*]; done)),H',⟨by have:=HK1.out; have:=HK2.out; have:=HJ17.out; omega⟩,⟨by (with_reducible repeat first|apply Qa|apply Qb|apply Qc); exact HO_5.out⟩,⟨by (with_reducible repeat first|apply Qa|apply Qb|apply Qc); exact HO_16.out⟩,⟨by (with_reducible repeat first|apply Qa|apply Qb|apply Qc); exact HO_18.out⟩,⟨by repeat first|(with_reducible first|exact HB.out|apply Qg|apply Qh|apply Qi)|exact HB.out⟩⟩
               ·replace c21:=Bool.eq_false_iff.mpr c21
                subst c21
                have H1 : ((sapperref13_repeat.f kj17 l0 ((l0.take ((wrap64 ((rd t351 x21_1) + x10_2)) : Int).toNat).drop ((rd t351 x21_1) : Int).toNat) t360).bind fun bt361=>(if bt361.2.2.2 = true then (if x5_2.length < 5864062014805 then (sapperref13_Repeats.l1 kj17 l0 a1 (x5_2 ++ [(⟨bt361.1,bt361.2.1,bt361.2.2.1⟩ : S79)]) (rd t351 x21_1) (wrap64 (x10_2 + 1)) t351 t354 (t351.length : Int) x21_1) else (none)) else (sapperref13_Repeats.l1 kj17 l0 a1 x5_2 (rd t351 x21_1) (wrap64 (x10_2 + 1)) t351 t354 (t351.length : Int) x21_1))) = some r:=by rw [if_neg (show ¬ (false = true) by decide)] at H; exact H
                clear H
                have H:=H1
                clear H1
                replace H:=Option.bind_eq_some_iff.mp H
                obtain ⟨⟨t361,t362,t363,t364⟩,A220,H⟩:=H
                replace H : (if t364 = true then (if x5_2.length < 5864062014805 then (sapperref13_Repeats.l1 kj17 l0 a1 (x5_2 ++ [(⟨t361,t362,t363⟩ : S79)]) (rd t351 x21_1) (wrap64 (x10_2 + 1)) t351 t354 (t351.length : Int) x21_1) else (none)) else (sapperref13_Repeats.l1 kj17 l0 a1 x5_2 (rd t351 x21_1) (wrap64 (x10_2 + 1)) t351 t354 (t351.length : Int) x21_1)) = some r:=H
                have A22:=Aside0.mk A220
                clear A220
                by_cases c23 : t364 = true
                ·subst c23
                 have H1 : (if x5_2.length < 5864062014805 then (sapperref13_Repeats.l1 kj17 l0 a1 (x5_2 ++ [(⟨t361,t362,t363⟩ : S79)]) (rd t351 x21_1) (wrap64 (x10_2 + 1)) t351 t354 (t351.length : Int) x21_1) else (none)) = some r:=by rw [if_pos rfl] at H; exact H
                 clear H
                 have H:=H1
                 clear H1
                 by_cases c24 : x5_2.length < 5864062014805
                 ·rw [if_pos c24] at H
                  have LMc24:=Aside0.mk c24
                  clear c24
                  obtain ⟨y366,hy366⟩ : ∃ y_ : List (S79),y_ = (x5_2 ++ [(⟨t361,t362,t363⟩ : S79)]):=⟨_,rfl⟩
                  replace H : (sapperref13_Repeats.l1 kj17 l0 a1 y366 (rd t351 x21_1) (wrap64 (x10_2 + 1)) t351 t354 (t351.length : Int) x21_1) = some r:=by first | (rw [hy366]; with_reducible exact H) | (have H2_:=(Option.bind_some _ _).symm.trans H; rw [hy366]; with_reducible exact H2_) | (have H2_:=(Option.bind_some _ _).symm.trans H; with_reducible exact H2_) | with_reducible exact H | (rw [hy366]; exact H) | exact H
                  have Ny366:=Aside0.mk hy366
                  clear hy366
                  have H':=Aside0.mk H
                  clear H
                  go_wp2_with (first | ((with_reducible refine gate_callee (f:=65) rfl ?_); refine goesL_ (some 59) rfl rfl Try.func65 (by kernel_rfl) rfl #[.slice A0 l0.length c0,.slice A19 ((l0.take ((wrap64 ((rd t351 x21_1) + x10_2)) : Int).toNat).drop ((rd t351 x21_1) : Int).toNat).length (c0 - (rd t351 x21_1).toNat),.int .i64 t360] rfl (by (try simp only [List.map_toArray,List.map_cons,List.map_nil]); first | done | (rw [show ((l0.take ((wrap64 ((rd t351 x21_1) + x10_2)) : Int).toNat).drop ((rd t351 x21_1) : Int).toNat).length = ((wrap64 ((rd t351 x21_1) + x10_2)).toNat - (rd t351 x21_1).toNat) from HLQ.out] <;> rfl) | rfl | (simp only [List.length_drop,List.length_take]; rfl)) ?_; (with_reducible refine (sapperref13_repeat.calls kj17 _ _ l0 _ _ ((l0.take ((wrap64 ((rd t351 x21_1) + x10_2)) : Int).toNat).drop ((rd t351 x21_1) : Int).toNat) t360 t361 t362 t363 true _ ?side1 ?side2 ?side3 ?side4 A22.out).mono ?_); (case side1=>repeat (first | exact (Kd.C_below HR0.out HB.out) | (with_reducible first|refine Qd ?_ _|refine Qe ?_ _|refine Qf ?_))); (case side2=>exact HC0.out); (case side3=>repeat (first | exact (Kd.C_below HR359.out HB.out) | (with_reducible first|refine Qd ?_ _|refine Qe ?_ _|refine Qf ?_))); (case side4=>exact HC359.out); rintro e w25 ⟨rfl,hb⟩; refine ⟨_,rfl,?_⟩; have n0_:=Aside0.mk (Kd.R_below (by (with_reducible repeat first|apply Qa|apply Qb|apply Qc); exact HO_5.out) hb); have n1_:=Aside0.mk (Kd.R_below (by (with_reducible repeat first|apply Qa|apply Qb|apply Qc); exact HO_16.out) hb); have n2_:=Aside0.mk (Kd.R_below (by (with_reducible repeat first|apply Qa|apply Qb|apply Qc); exact HO_18.out) hb); have n3_:=Aside0.mk (below_step (by repeat first|(with_reducible first|exact HB.out|apply Qg|apply Qh|apply Qi)|exact HB.out) hb); clear HO_5; clear HO_16; clear HO_18; clear HB; have HO_5:=n0_; have HO_16:=n1_; have HO_18:=n2_; have HB:=n3_; clear n0_ n1_ n2_ n3_; (try clear hb); (try clear hb2); (try clear hk); (try clear hi)) | ((with_reducible refine gate_dst (N:=13) rfl ?_); refine box_event ?hg (N:=13) ?hd (cs:=#[.int .i64 0,.int .i64 0,.int .i64 0]) (t:=79) ?hr ?_; (case hd=>rfl); (case hg=>rfl); (case hr=>first | (go_simp; done) | (go_simp; rfl)); intro gb365 hg w26 hbox hb; have n0_:=Aside0.mk (Kd.R_below (Kd.R_elderB (by (with_reducible repeat first|apply Qa|apply Qb|apply Qc); exact HO_5.out) gb365 (Nat.le_of_eq hg.symm)) hb); have n1_:=Aside0.mk (Kd.R_below (by (with_reducible repeat first|apply Qa|apply Qb|apply Qc); exact HO_16.out) hb); have n2_:=Aside0.mk (Kd.R_below (by (with_reducible repeat first|apply Qa|apply Qb|apply Qc); exact HO_18.out) hb); have n3_:=Aside0.mk (below_step (by repeat first|(with_reducible first|exact HB.out|apply Qg|apply Qh|apply Qi)|exact HB.out) hb); have n4_:=Aside0.mk (hbox); have n5_:=Aside0.mk ((by rw [hg]; exact (below_size (by repeat first|(with_reducible first|exact HB.out|apply Qg|apply Qh|apply Qi)|exact HB.out)) : w.heap.size≤gb365)); have n6_:=Aside0.mk ((by rw [hg]; exact (below_size (by repeat first|(with_reducible first|exact HB.out|apply Qg|apply Qh|apply Qi)|exact HB.out)) : w.heap.size≤gb365)); clear HO_5; clear HO_16; clear HO_18; clear HB; have HO_5:=n0_; have HO_16:=n1_; have HO_18:=n2_; have HB:=n3_; have BK365:=n4_; have GW365:=n5_; have GE365:=n6_; clear n0_ n1_ n2_ n3_ n4_ n5_ n6_; clear hb hbox hg; have hcz27_0 : w26.cell? ⟨gb365,0,none⟩ = some (.int .i64 0):=(blk_cell BK365.out 0).trans rfl; have hcz27_1 : w26.cell? ⟨gb365,1,none⟩ = some (.int .i64 0):=(blk_cell BK365.out 1).trans rfl; have hcz27_2 : w26.cell? ⟨gb365,2,none⟩ = some (.int .i64 0):=(blk_cell BK365.out 2).trans rfl; have hfz27_0:=blk_frozen BK365.out 0; have hfz27_1:=blk_frozen BK365.out 1; have hfz27_2:=blk_frozen BK365.out 2) | ((with_reducible refine gate_builtin (b:=.append) (xs:=#[.tmp 63,.tmp 65]) rfl ?_); at_builtin; refine Kd.R_append k79 (w0:=w) w.heap.size rfl (.tmp 63) (.tmp 65) 76 79 (.agg #[(.int .i64 0),(.int .i64 0),(.int .i64 0)]) 24 rfl Try.underlying76 info79 rfl (by decide) (by omega) u5 x5_2 (⟨t361,t362,t363⟩ : S79) [.int .i64 t361,.int .i64 t362,.int .i64 t363] (fun k_=>k_ ≠ gb365) (fun _=>False) rfl (by first | (go_simp; done) | (go_simp; rfl)) ?aP (fun _ hk=>hk.elim) ?aF ?aO ?aB ?aS ?aL ?_; (case aP=>exact k79_mkM _ _ _ (⟨t361,t362,t363⟩ : S79)); (case aB=>exact (by repeat (first | (with_reducible first | exact HB.out | apply below_alloc | apply pw_below_drewN | apply below_drew1 | refine below_set ?_ GE365.out) | exact HB.out))); (case aF=>exact (fun k_ hk=>Kd.freshB (g:=gb365) (o:=.cells #[.int .i64 t361,.int .i64 t362,.int .i64 t363] 79 (0,0)) (by (with_reducible repeat (first | refine blk_drewN ?_ _ | refine blk_drew ?_ | refine blk_alloc ?_ _)); refine blk_put (cs:=#[.int .i64 t361,.int .i64 t362,.int .i64 0]) ?_ 2 _ rfl; (with_reducible repeat (first | refine blk_drewN ?_ _ | refine blk_drew ?_ | refine blk_alloc ?_ _)); refine blk_put (cs:=#[.int .i64 t361,.int .i64 0,.int .i64 0]) ?_ 1 _ rfl; (with_reducible repeat (first | refine blk_drewN ?_ _ | refine blk_drew ?_ | refine blk_alloc ?_ _)); refine blk_put (cs:=#[.int .i64 0,.int .i64 0,.int .i64 0]) ?_ 0 _ rfl; (with_reducible repeat (first | refine blk_drewN ?_ _ | refine blk_drew ?_ | refine blk_alloc ?_ _)); exact BK365.out) k_ hk)); (case aO=>exact (by (with_reducible repeat first|apply Qa|apply Qb|apply Qc); exact Kd.R_mono (Kd.R_far (p:=⟨gb365,2,none⟩) (Kd.R_far (p:=⟨gb365,1,none⟩) (Kd.R_far (p:=⟨gb365,0,none⟩) (Kd.R_mono HO_5.out (fun k_ hk=>(⟨hk,hk.2⟩ : _∧k_ ≠ gb365))) (fun _ hk=>hk.2) (.int .i64 t361)) (fun _ hk=>hk.2) (.int .i64 t362)) (fun _ hk=>hk.2) (.int .i64 t363)) (fun _ hk=>hk.1.2))); (case aS=>exact (below_size (by repeat (first | (with_reducible first | exact HB.out | apply below_alloc | apply pw_below_drewN | apply below_drew1 | refine below_set ?_ GE365.out) | exact HB.out)))); (case aL=>have:=LMc24.out; omega); intro v367 w28 ho hb hg hat; rw [← Ny366.out] at ho; have n0_:=Aside0.mk (Kd.R_over' (by (with_reducible repeat first|apply Qa|apply Qb|apply Qc); exact (Kd.R_mono (Kd.R_far (p:=⟨gb365,2,none⟩) (Kd.R_far (p:=⟨gb365,1,none⟩) (Kd.R_far (p:=⟨gb365,0,none⟩) (Kd.R_types HO_16.out BK365.out (by decide)) (fun _ hk=>hk.2) (.int .i64 t361)) (fun _ hk=>hk.2) (.int .i64 t362)) (fun _ hk=>hk.2) (.int .i64 t363)) (fun _ h_=>h_.1))) (Kd.R_typed (by (with_reducible repeat first|apply Qa|apply Qb|apply Qc); exact (Kd.R_mono (Kd.R_far (p:=⟨gb365,2,none⟩) (Kd.R_far (p:=⟨gb365,1,none⟩) (Kd.R_far (p:=⟨gb365,0,none⟩) (Kd.R_mono HO_5.out (fun k_ hk=>(⟨hk,hk.2⟩ : _∧k_ ≠ gb365))) (fun _ hk=>hk.2) (.int .i64 t361)) (fun _ hk=>hk.2) (.int .i64 t362)) (fun _ hk=>hk.2) (.int .i64 t363)) (fun _ h_=>h_.1)))) (by decide) hg); have n1_:=Aside0.mk (Kd.R_over' (by (with_reducible repeat first|apply Qa|apply Qb|apply Qc); exact (Kd.R_mono (Kd.R_far (p:=⟨gb365,2,none⟩) (Kd.R_far (p:=⟨gb365,1,none⟩) (Kd.R_far (p:=⟨gb365,0,none⟩) (Kd.R_types HO_18.out BK365.out (by decide)) (fun _ hk=>hk.2) (.int .i64 t361)) (fun _ hk=>hk.2) (.int .i64 t362)) (fun _ hk=>hk.2) (.int .i64 t363)) (fun _ h_=>h_.1))) (Kd.R_typed (by (with_reducible repeat first|apply Qa|apply Qb|apply Qc); exact (Kd.R_mono (Kd.R_far (p:=⟨gb365,2,none⟩) (Kd.R_far (p:=⟨gb365,1,none⟩) (Kd.R_far (p:=⟨gb365,0,none⟩) (Kd.R_mono HO_5.out (fun k_ hk=>(⟨hk,hk.2⟩ : _∧k_ ≠ gb365))) (fun _ hk=>hk.2) (.int .i64 t361)) (fun _ hk=>hk.2) (.int .i64 t362)) (fun _ hk=>hk.2) (.int .i64 t363)) (fun _ h_=>h_.1)))) (by decide) hg); have n2_:=Aside0.mk (blk_grown (g:=gb365) (o:=.cells #[.int .i64 t361,.int .i64 t362,.int .i64 t363] 79 (0,0)) (by (with_reducible repeat (first | refine blk_drewN ?_ _ | refine blk_drew ?_ | refine blk_alloc ?_ _)); refine blk_put (cs:=#[.int .i64 t361,.int .i64 t362,.int .i64 0]) ?_ 2 _ rfl; (with_reducible repeat (first | refine blk_drewN ?_ _ | refine blk_drew ?_ | refine blk_alloc ?_ _)); refine blk_put (cs:=#[.int .i64 t361,.int .i64 0,.int .i64 0]) ?_ 1 _ rfl; (with_reducible repeat (first | refine blk_drewN ?_ _ | refine blk_drew ?_ | refine blk_alloc ?_ _)); refine blk_put (cs:=#[.int .i64 0,.int .i64 0,.int .i64 0]) ?_ 0 _ rfl; (with_reducible repeat (first | refine blk_drewN ?_ _ | refine blk_drew ?_ | refine blk_alloc ?_ _)); exact BK365.out) hg (Kd.R_away HO_5.out (fun _ hk=>hk.2))); have n3_:=Aside0.mk (hb); have n4_:=Aside0.mk (ho); clear HO_16; clear HO_18; clear BK365; clear HB; clear HO_5; have HO_16:=n0_; have HO_18:=n1_; have BK365:=n2_; have HB:=n3_; have HO368:=n4_; clear n0_ n1_ n2_ n3_ n4_; clear ho hb hg hat))
                  go_roundg kj17
                  case measure=>have:=HK1.out; have:=HK2.out; have:=HJ17.out; omega
                  case rel=>exact ⟨(y366),(wrap64 (x10_2 + 1)),(rfl),H',⟨by have:=HK1.out; have:=HK2.out; have:=HJ17.out; omega⟩,⟨by (with_reducible repeat first|apply Qa|apply Qb|apply Qc); exact Kd.R_mono HO368.out (fun _ hk=>trivial)⟩,⟨by (with_reducible repeat first|apply Qa|apply Qb|apply Qc); exact HO_16.out⟩,⟨by (with_reducible repeat first|apply Qa|apply Qb|apply Qc); exact HO_18.out⟩,⟨HB.out⟩⟩
                 ·rw [if_neg c24] at H
                  exact absurd H (by simp)
                ·replace c23:=Bool.eq_false_iff.mpr c23
                 subst c23
                 have H1 : (sapperref13_Repeats.l1 kj17 l0 a1 x5_2 (rd t351 x21_1) (wrap64 (x10_2 + 1)) t351 t354 (t351.length : Int) x21_1) = some r:=by rw [if_neg (show ¬ (false = true) by decide)] at H; exact H
                 clear H
                 have H:=H1
                 clear H1
                 have H':=Aside0.mk H
                 clear H
                 go_wp2_with (first | ((with_reducible refine gate_callee (f:=65) rfl ?_); refine goesL_ (some 59) rfl rfl Try.func65 (by kernel_rfl) rfl #[.slice A0 l0.length c0,.slice A19 ((l0.take ((wrap64 ((rd t351 x21_1) + x10_2)) : Int).toNat).drop ((rd t351 x21_1) : Int).toNat).length (c0 - (rd t351 x21_1).toNat),.int .i64 t360] rfl (by (try simp only [List.map_toArray,List.map_cons,List.map_nil]); first | done | (rw [show ((l0.take ((wrap64 ((rd t351 x21_1) + x10_2)) : Int).toNat).drop ((rd t351 x21_1) : Int).toNat).length = ((wrap64 ((rd t351 x21_1) + x10_2)).toNat - (rd t351 x21_1).toNat) from HLQ.out] <;> rfl) | rfl | (simp only [List.length_drop,List.length_take]; rfl)) ?_; (with_reducible refine (sapperref13_repeat.calls kj17 _ _ l0 _ _ ((l0.take ((wrap64 ((rd t351 x21_1) + x10_2)) : Int).toNat).drop ((rd t351 x21_1) : Int).toNat) t360 t361 t362 t363 false _ ?side1 ?side2 ?side3 ?side4 A22.out).mono ?_); (case side1=>repeat (first | exact (Kd.C_below HR0.out HB.out) | (with_reducible first|refine Qd ?_ _|refine Qe ?_ _|refine Qf ?_))); (case side2=>exact HC0.out); (case side3=>repeat (first | exact (Kd.C_below HR359.out HB.out) | (with_reducible first|refine Qd ?_ _|refine Qe ?_ _|refine Qf ?_))); (case side4=>exact HC359.out); rintro e w29 ⟨rfl,hb⟩; refine ⟨_,rfl,?_⟩; have n0_:=Aside0.mk (Kd.R_below (by (with_reducible repeat first|apply Qa|apply Qb|apply Qc); exact HO_5.out) hb); have n1_:=Aside0.mk (Kd.R_below (by (with_reducible repeat first|apply Qa|apply Qb|apply Qc); exact HO_16.out) hb); have n2_:=Aside0.mk (Kd.R_below (by (with_reducible repeat first|apply Qa|apply Qb|apply Qc); exact HO_18.out) hb); have n3_:=Aside0.mk (below_step (by repeat first|(with_reducible first|exact HB.out|apply Qg|apply Qh|apply Qi)|exact HB.out) hb); clear HO_5; clear HO_16; clear HO_18; clear HB; have HO_5:=n0_; have HO_16:=n1_; have HO_18:=n2_; have HB:=n3_; clear n0_ n1_ n2_ n3_; (try clear hb); (try clear hb2); (try clear hk); (try clear hi)) | ((with_reducible refine gate_dst (N:=13) rfl ?_); refine box_event ?hg (N:=13) ?hd (cs:=#[.int .i64 0,.int .i64 0,.int .i64 0]) (t:=79) ?hr ?_; (case hd=>rfl); (case hg=>rfl); (case hr=>first | (go_simp; done) | (go_simp; rfl)); intro gb365 hg w30 hbox hb; have n0_:=Aside0.mk (Kd.R_below (Kd.R_elderB (by (with_reducible repeat first|apply Qa|apply Qb|apply Qc); exact HO_5.out) gb365 (Nat.le_of_eq hg.symm)) hb); have n1_:=Aside0.mk (Kd.R_below (by (with_reducible repeat first|apply Qa|apply Qb|apply Qc); exact HO_16.out) hb); have n2_:=Aside0.mk (Kd.R_below (by (with_reducible repeat first|apply Qa|apply Qb|apply Qc); exact HO_18.out) hb); have n3_:=Aside0.mk (below_step (by repeat first|(with_reducible first|exact HB.out|apply Qg|apply Qh|apply Qi)|exact HB.out) hb); have n4_:=Aside0.mk (hbox); have n5_:=Aside0.mk ((by rw [hg]; exact (below_size (by repeat first|(with_reducible first|exact HB.out|apply Qg|apply Qh|apply Qi)|exact HB.out)) : w.heap.size≤gb365)); have n6_:=Aside0.mk ((by rw [hg]; exact (below_size (by repeat first|(with_reducible first|exact HB.out|apply Qg|apply Qh|apply Qi)|exact HB.out)) : w.heap.size≤gb365)); clear HO_5; clear HO_16; clear HO_18; clear HB; have HO_5:=n0_; have HO_16:=n1_; have HO_18:=n2_; have HB:=n3_; have BK365:=n4_; have GW365:=n5_; have GE365:=n6_; clear n0_ n1_ n2_ n3_ n4_ n5_ n6_; clear hb hbox hg; have hcz31_0 : w30.cell? ⟨gb365,0,none⟩ = some (.int .i64 0):=(blk_cell BK365.out 0).trans rfl; have hcz31_1 : w30.cell? ⟨gb365,1,none⟩ = some (.int .i64 0):=(blk_cell BK365.out 1).trans rfl; have hcz31_2 : w30.cell? ⟨gb365,2,none⟩ = some (.int .i64 0):=(blk_cell BK365.out 2).trans rfl; have hfz31_0:=blk_frozen BK365.out 0; have hfz31_1:=blk_frozen BK365.out 1; have hfz31_2:=blk_frozen BK365.out 2))
                 go_roundg kj17
                 case measure=>have:=HK1.out; have:=HK2.out; have:=HJ17.out; omega
                 case rel=>exact ⟨(x5_2),(wrap64 (x10_2 + 1)),(by first | rfl | (simp; done) | (simp [*]; done)),H',⟨by have:=HK1.out; have:=HK2.out; have:=HJ17.out; omega⟩,⟨by (with_reducible repeat first|apply Qa|apply Qb|apply Qc); exact Kd.R_mono (Kd.R_far (p:=⟨gb365,2,none⟩) (Kd.R_far (p:=⟨gb365,1,none⟩) (Kd.R_far (p:=⟨gb365,0,none⟩) (Kd.R_mono HO_5.out (fun k_ hk=>(⟨hk,hk.2⟩ : _∧k_ ≠ gb365))) (fun _ hk=>hk.2) (.int .i64 t361)) (fun _ hk=>hk.2) (.int .i64 t362)) (fun _ hk=>hk.2) (.int .i64 t363)) (fun _ hk=>trivial)⟩,⟨by (with_reducible repeat first|apply Qa|apply Qb|apply Qc); exact Kd.R_mono (Kd.R_far (p:=⟨gb365,2,none⟩) (Kd.R_far (p:=⟨gb365,1,none⟩) (Kd.R_far (p:=⟨gb365,0,none⟩) (Kd.R_types HO_16.out BK365.out (by decide)) (fun _ hk=>hk.2) (.int .i64 t361)) (fun _ hk=>hk.2) (.int .i64 t362)) (fun _ hk=>hk.2) (.int .i64 t363)) (fun _ hk=>hk.1)⟩,⟨by (with_reducible repeat first|apply Qa|apply Qb|apply Qc); exact Kd.R_mono (Kd.R_far (p:=⟨gb365,2,none⟩) (Kd.R_far (p:=⟨gb365,1,none⟩) (Kd.R_far (p:=⟨gb365,0,none⟩) (Kd.R_types HO_18.out BK365.out (by decide)) (fun _ hk=>hk.2) (.int .i64 t361)) (fun _ hk=>hk.2) (.int .i64 t362)) (fun _ hk=>hk.2) (.int .i64 t363)) (fun _ hk=>hk.1)⟩,⟨by repeat (first | (with_reducible first | exact HB.out | apply below_alloc | apply pw_below_drewN | apply below_drew1 | refine below_set ?_ GE365.out) | exact HB.out)⟩⟩
            ·rw [if_neg c16] at H
             exact absurd H (by simp)
           ·rw [if_neg c15] at H
            exact absurd H (by simp)
          ·rw [if_neg c14] at H
           exact absurd H (by simp)
         ·rw [if_neg c13] at H
          have c13b0 : decide (x10_2≤(wrap64 ((l0.length : Int) - (rd t351 x21_1)))) = false:=decide_eq_false c13
          clear c13
          have H':=Aside0.mk H
          clear H
          go_wp2
          go_roundg k2
          case measure=>have:=HK1.out; have:=HK2.out; omega
          case rel=>exact ⟨(x5_2),(wrap64 (x21_1 + 1)),(rfl),H',⟨by have:=HK1.out; have:=HK2.out; omega⟩,⟨by (with_reducible repeat first|apply Qa|apply Qb|apply Qc); exact HO_5.out⟩,⟨by (with_reducible repeat first|apply Qa|apply Qb|apply Qc); exact HO_16.out⟩,⟨by (with_reducible repeat first|apply Qa|apply Qb|apply Qc); exact HO_18.out⟩,⟨HB.out⟩⟩
      ·rw [if_neg c11] at H
       exact absurd H (by simp)
     ·rw [if_neg c10] at H
      exact absurd H (by simp)
    ·rw [if_neg c9] at H
     exact absurd H (by simp)
   ·rw [if_neg c8] at H
    have c8b0 : decide (x21_1 < (t351.length : Int)) = false:=decide_eq_false c8
    clear c8
    obtain rfl:=Option.some.inj H
    go_wp2
    go_ret
    exact ⟨_,rfl,by (with_reducible repeat first|apply Qa|apply Qb|apply Qc); exact HO_5.out,HB.out⟩

end Go.Proofs.Ythcnnfahlhklgaa.X
