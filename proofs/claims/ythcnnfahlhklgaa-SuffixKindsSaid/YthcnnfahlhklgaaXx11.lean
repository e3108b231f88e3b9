-- Printed by wip/xprint.py of this repo (a wrapper of the session's own round the print).
import Derived.Test.YthcnnfahlhklgaaXx0
import Derived.Test.YthcnnfahlhklgaaXBA
import Derived.Test.YthcnnfahlhklgaaXx10
namespace Go.Proofs.Ythcnnfahlhklgaa.X
open Go.RowKit Go.Proofs.YthcnnfahlhklgaaW.PrintWords Go.Proofs.YthcnnfahlhklgaaW.PrintLast Go.Proofs.YthcnnfahlhklgaaW.PrintMore
attribute [local go_sem] ptrOf_eql ptrOf_neq ptrOf_eqg ptrOf_neg str_leq str_geq str_gtr max2_int min2_int max_two min_two max_three min_three max_four min_four   -- for this text's walks alone
set_option linter.unusedVariables false
set_option linter.unusedSimpArgs false

/-! ### suffix_sorted: function 50 -/
def suffix_sorted.l0 : Nat→List Int→List Int→Int→Int→Option (List Int × Int)
 | 0,_,_,_,_=>none
 | k + 1,x12,x13,x14,x15=>if x15 < x14 then (if 0≤x15 then (if x15 < (x13.length : Int) then (if x15 < (x12.length : Int) then (suffix_sorted.l0 k (x12.set (x15 : Int).toNat (wrap64 (rd x13 x15))) x13 x14 (wrap64 (x15 + 1))) else (none)) else (none)) else (none)) else ((sais_Array.f k 256 x12).bind fun bt247=>(some (bt247.1,bt247.2)))
def suffix_sorted.f (k : Nat) (l0 : List Int) : Option (List Int × Int):=if (l0.length : Int) > 16777216 then (some (([] : List Int),130)) else (if 0≤(l0.length : Int) then (if ((l0.length : Int) : Int).toNat≤35184372088832 then (suffix_sorted.l0 k (List.replicate ((l0.length : Int) : Int).toNat 0) l0 (l0.length : Int) 0) else (none)) else (none))
theorem suffix_sorted.mono_l : ∀ k,(∀ y0 y1 y2 y3,LeO (suffix_sorted.l0 k y0 y1 y2 y3) (suffix_sorted.l0 (k + 1) y0 y1 y2 y3))
 | 0=>fun _ _ _ _ r h=>by simp [suffix_sorted.l0] at h
 | k + 1=>by
  have ih0:=suffix_sorted.mono_l k
  ·intro y0 y1 y2 y3
   unfold suffix_sorted.l0
   repeat' first
   | (with_reducible exact ih0 _ _ _ _)
   | (with_reducible exact sais_Array.mono _ _ _)
   | (with_reducible exact LeO.refl _)
   | (with_reducible exact LeO.none _)
   | (with_reducible refine LeO.ite ?_ ?_)
   | (with_reducible refine LeO.bind ?_ (fun _=>?_))
   | exact ih0 _ _ _ _
   | exact sais_Array.mono _ _ _
   | exact LeO.none _
   | refine LeO.ite ?_ ?_
   | refine LeO.bind ?_ (fun _=>?_)
theorem suffix_sorted.mono : ∀ a0 k,LeO (suffix_sorted.f k a0) (suffix_sorted.f (k + 1) a0):=by
 intro a0 k
 have ih0:=suffix_sorted.mono_l k
 unfold suffix_sorted.f
 repeat' first
   | (with_reducible exact ih0 _ _ _ _)
   | (with_reducible exact sais_Array.mono _ _ _)
   | (with_reducible exact LeO.refl _)
   | (with_reducible exact LeO.none _)
   | (with_reducible refine LeO.ite ?_ ?_)
   | (with_reducible refine LeO.bind ?_ (fun _=>?_))
   | exact ih0 _ _ _ _
   | exact sais_Array.mono _ _ _
   | exact LeO.none _
   | refine LeO.ite ?_ ?_
   | refine LeO.bind ?_ (fun _=>?_)
set_option maxHeartbeats 8000000 in
set_option maxRecDepth 100000 in
theorem suffix_sorted.calls (k : Nat) (A0 : Option Addr) (c0 : Nat) (l0 : List Int) (r1 : List Int) (r2 : Int) (w : World) (hr0 : Kd.C (Kd.int .u8) w A0 l0.length l0) (hc0 : l0.length≤c0) (h : suffix_sorted.f k l0 = some (r1,r2)) :
  Calls Try.prog 50 #[.slice A0 l0.length c0] w fun e w'=>∃ v0_ : Value,e = .returned (.tuple #[v0_,.int .i64 r2])∧Kd.R (Kd.int .i64) 3 w' w.heap.size (fun _=>True) v0_ r1∧Below w.heap.size w w':=by
 have HR0:=Aside0.mk hr0
 have HC0:=Aside0.mk hc0
 clear hr0 hc0
 have HB:=Aside0.mk (Below.refl w.heap.size w)
 have H : (if (l0.length : Int) > 16777216 then (some (([] : List Int),130)) else (if 0≤(l0.length : Int) then (if ((l0.length : Int) : Int).toNat≤35184372088832 then (suffix_sorted.l0 k (List.replicate ((l0.length : Int) : Int).toNat 0) l0 (l0.length : Int) 0) else (none)) else (none))) = some (r1,r2):=h
 clear h
 by_cases c2 : (l0.length : Int) > 16777216
 ·rw [if_pos c2] at H
  have c2b0 : decide (16777216 < (l0.length : Int)) = true:=decide_eq_true c2
  have c2b1 : decide (16777216 < l0.length) = true:=decide_eq_true (by omega)
  clear c2
  simp only [Option.some.injEq,Prod.mk.injEq] at H
  obtain ⟨rfl,rfl⟩:=H
  go_enter Try.func50,Try.ntmps50
  go_wp2
  go_ret2
  exact ⟨_,rfl,by first | exact Kd.R_nil _ _ _ _ _ | exact Kd.N_nil _ _ _ _ _ | exact Kd.V_nil _ _ _ _ _ | exact Kd.Q_nil _ _ _ _ _ | exact Kd.S_nil _ _ _ _ _,HB.out⟩
 ·rw [if_neg c2] at H
  have c2b0 : decide (16777216 < (l0.length : Int)) = false:=decide_eq_false c2
  have c2b1 : decide (16777216 < l0.length) = false:=decide_eq_false (by omega)
  clear c2
  by_cases c3 : 0≤(l0.length : Int)
  ·rw [if_pos c3] at H
   have c3b0:=eq_true c3
   have c3b1 : decide (0≤(l0.length : Int)) = true:=decide_eq_true c3
   clear c3
   by_cases c4 : ((l0.length : Int) : Int).toNat≤35184372088832
   ·rw [if_pos c4] at H
    have c4b0:=eq_true c4
    have c4b1 : decide (((l0.length : Int) : Int).toNat≤35184372088832) = true:=decide_eq_true c4
    clear c4
    obtain ⟨y242,hy242⟩ : ∃ y_ : List Int,y_ = (List.replicate ((l0.length : Int) : Int).toNat 0):=⟨_,rfl⟩
    replace H : (suffix_sorted.l0 k y242 l0 (l0.length : Int) 0) = some (r1,r2):=by first | (rw [hy242]; with_reducible exact H) | (have H2_:=(Option.bind_some _ _).symm.trans H; rw [hy242]; with_reducible exact H2_) | (have H2_:=(Option.bind_some _ _).symm.trans H; with_reducible exact H2_) | with_reducible exact H | (rw [hy242]; exact H) | exact H
    have Ny242:=Aside0.mk hy242
    clear hy242
    have H':=Aside0.mk H
    clear H
    go_enter Try.func50,Try.ntmps50
    go_wp2_with (first | (refine gate_dst (N:=12) rfl ?_; refine Kd.R_make (Kd.int .i64) _ 3 rfl (N:=12) rfl 34 _ _ rfl (l0.length : Int) rfl rfl Try.underlying34 (.int .i64 0) 8 info3 rfl (by decide) (by omega) 0 (ok:=fun _=>True) (okp:=fun _=>True) rfl (fun _ hk=>hk) trivial (Qt) (Nat.le_trans (Nat.mul_le_mul_right _ (Qt : (l0.length : Int).toNat≤35184372088832)) (by omega)) (Below.refl _ _) (Nat.le_refl _) ?_; intro v243 w5 ho6 hb hg_ hnew_; clear hg_ hnew_; (first | rw [← Ny242.out] at ho6 | (simp only [Int.reduceToNat] at ho6; rw [← Ny242.out] at ho6)); have n0_:=Aside0.mk (Kd.R_lower ho6 (below_size HB.out)); have n1_:=Aside0.mk (below_step HB.out hb); clear HB; have HO244:=n0_; have HB:=n1_; clear n0_ n1_; clear hb ho6))
    go_loopg [15] k (fun kq v15 w'=>∃ (x12_1 : List Int) (x15_1 : Int),v15 = .int .i64 x15_1∧Aside0 (suffix_sorted.l0 kq x12_1 l0 (l0.length : Int) x15_1 = some (r1,r2))∧Aside0 (kq≤k)∧Aside0 (Kd.R (Kd.int .i64) 3 w' w.heap.size (fun _=>True) v243 x12_1)∧Aside0 (Below w.heap.size w w'))
    case atStart=>exact ⟨(y242),(0),(rfl),H',⟨Nat.le_refl _⟩,⟨by (with_reducible repeat first|apply Qa|apply Qb|apply Qc); exact HO244.out⟩,⟨HB.out⟩⟩
    case round =>
     clear H'
     try clear c2
     try clear c2b0
     try clear c2b1
     try clear p2
     try clear c3
     try clear c3b0
     try clear c3b1
     try clear c4
     try clear c4b0
     try clear c4b1
     try clear c5
     obtain ⟨x12_1,x15_1,rfl,HA,HK1,HO_12,HB⟩:=hrel
     cases gk with
     | zero=>exact absurd HA.out (by simp [suffix_sorted.l0])
     | succ k1 =>
      have H:=HA.out
      clear HA
      simp only [suffix_sorted.l0] at H
      by_cases c7 : x15_1 < (l0.length : Int)
      ·rw [if_pos c7] at H
       have c7b0 : decide (x15_1 < (l0.length : Int)) = true:=decide_eq_true c7
       clear c7
       by_cases c8 : 0≤x15_1
       ·rw [if_pos c8] at H
        have c8b0 : decide (0≤x15_1) = true:=decide_eq_true c8
        clear c8
        by_cases c9 : x15_1 < (l0.length : Int)
        ·rw [if_pos c9] at H
         have c9b0 : decide (x15_1 < (l0.length : Int)) = true:=decide_eq_true c9
         clear c9
         by_cases c10 : x15_1 < (x12_1.length : Int)
         ·rw [if_pos c10] at H
          have c10b0 : decide (x15_1 < (x12_1.length : Int)) = true:=decide_eq_true c10
          clear c10
          obtain ⟨y246,hy246⟩ : ∃ y_ : List Int,y_ = (x12_1.set (x15_1 : Int).toNat (wrap64 (rd l0 x15_1))):=⟨_,rfl⟩
          replace H : (suffix_sorted.l0 k1 y246 l0 (l0.length : Int) (wrap64 (x15_1 + 1))) = some (r1,r2):=by first | (rw [hy246]; with_reducible exact H) | (have H2_:=(Option.bind_some _ _).symm.trans H; rw [hy246]; with_reducible exact H2_) | (have H2_:=(Option.bind_some _ _).symm.trans H; with_reducible exact H2_) | with_reducible exact H | (rw [hy246]; exact H) | exact H
          have Ny246:=Aside0.mk hy246
          clear hy246
          have H':=Aside0.mk H
          clear H
          have p245 : 0≤(x15_1 : Int):=Qt
          have q245 : x15_1 < (l0.length : Int):=Qt
          obtain ⟨ad245,e245,hx245_0⟩:=Kd.at_int HR0.out x15_1 p245 q245
          cases e245
          replace hx245_0:=(HB.out.cell (World.block_lt_of_cell? w _ hx245_0)).trans hx245_0
          replace p245:=eq_true p245
          replace q245:=eq_true q245
          have p11 : 0≤(x15_1 : Int):=Qt
          have q11 : (x15_1 : Int) < ((x12_1.length : Int) : Int):=Qt
          obtain ⟨go11,co11,eo11,gb11,gl11,cl11,HG11⟩:=Kd.R_form HO_12.out (by omega)
          (first | cases eo11 | (injection eo11 with ea_ en_ ec_; (first | subst ea_ | (injection ea_ with ea_; subst ea_)); subst ec_; clear en_))
          have GB11:=Aside0.mk gb11
          have GG11:=Aside0.mk HG11
          clear gb11 gl11 HG11
          obtain ⟨hx11_0,hf11_0⟩:=Kd.R_celln 0 HO_12.out (x15_1 : Int) p11 q11
          replace p11:=eq_true p11
          replace q11:=eq_true q11
          have HP12:=Kd.R_putg HO_12.out (x15_1 : Int) (wrap64 (rd l0 x15_1))
          go_wp2_with (first | ((with_reducible refine gate_store (t:=3) (p:=24) rfl ?_); refine store_event (t:=3) (p:=24) (v:=?vo_w13) (w1:=(wr.setCell ⟨go11,(x15_1 : Int).toNat,none⟩ (.int .i64 (wrap64 (rd l0 x15_1))))) ?hg ?ho ?hn ?hr ?_; (case ho=>rfl); (case hg=>rfl); (case hn=>rfl); (case hr=>first | (go_simp; done) | (go_simp; rfl)); intro w13 hw; have hg : wr.grownBy w13 (some go11):=(by rw [hw]; exact HP12.2); have hp_ : Kd.R (Kd.int .i64) 3 w13 w.heap.size (fun _=>True) (.slice (some ⟨go11,0,none⟩) x12_1.length co11) y246:=(by rw [hw,Ny246.out]; exact HP12.1); clear HP12; have n0_:=Aside0.mk (hp_); have n1_:=Aside0.mk ((by rw [hw]; exact below_set (HB.out) GB11.out : Below w.heap.size w w13)); clear HO_12; clear HB; have HO_12:=n0_; have HB:=n1_; clear n0_ n1_; clear hg hw hp_))
          go_roundg k1
          case measure=>have:=HK1.out; omega
          case rel=>exact ⟨(y246),(wrap64 (x15_1 + 1)),(rfl),H',⟨by have:=HK1.out; omega⟩,⟨by (with_reducible repeat first|apply Qa|apply Qb|apply Qc); exact HO_12.out⟩,⟨HB.out⟩⟩
         ·rw [if_neg c10] at H
          exact absurd H (by simp)
        ·rw [if_neg c9] at H
         exact absurd H (by simp)
       ·rw [if_neg c8] at H
        exact absurd H (by simp)
      ·rw [if_neg c7] at H
       have c7b0 : decide (x15_1 < (l0.length : Int)) = false:=decide_eq_false c7
       clear c7
       replace H:=Option.bind_eq_some_iff.mp H
       obtain ⟨⟨t247,t248⟩,A140,H⟩:=H
       replace H : (some (t247,t248)) = some (r1,r2):=H
       have A14:=Aside0.mk A140
       clear A140
       simp only [Option.some.injEq,Prod.mk.injEq] at H
       obtain ⟨rfl,rfl⟩:=H
       obtain ⟨Ao15,co15,eo15⟩:=Kd.R_slice HO_12.out
       subst eo15
       go_wp2_with (first | ((with_reducible refine gate_callee (f:=66) rfl ?_); refine goesL_ (some 27) rfl rfl Try.func66 (by kernel_rfl) rfl #[.int .i64 256,.slice Ao15 x12_1.length co15] rfl (by (try simp only [List.map_toArray,List.map_cons,List.map_nil]); first | done | rfl | (simp only [List.length_drop,List.length_take]; rfl)) ?_; (with_reducible refine (sais_Array.calls k1 256 _ _ x12_1 t247 t248 _ ?side1 ?side2 A14.out).mono ?_); (case side1=>repeat (first | exact (Kd.R_reads' HO_12.out).2.2 | (with_reducible first|refine Qd ?_ _|refine Qe ?_ _|refine Qf ?_))); (case side2=>exact (Kd.R_reads' HO_12.out).2.1); rintro e w16 ⟨v249,rfl,ho0,hb⟩; refine ⟨_,rfl,?_⟩; have n1_:=Aside0.mk (Kd.R_lower (Kd.R_new' ho0 (Kd.R_lt (by (with_reducible repeat first|apply Qa|apply Qb|apply Qc); exact HO_12.out))) (below_size (by repeat first|(with_reducible first|exact HB.out|apply Qg|apply Qh|apply Qi)|exact HB.out))); have n2_:=Aside0.mk (below_step (by repeat first|(with_reducible first|exact HB.out|apply Qg|apply Qh|apply Qi)|exact HB.out) hb); (try clear HO_12); clear HB; have HO250:=n1_; have HB:=n2_; clear n1_ n2_; (try clear hb); (try clear hb2); (try clear hk); (try clear hi); (try clear ho0)))
       go_ret2
       exact ⟨_,rfl,by (with_reducible repeat first|apply Qa|apply Qb|apply Qc); exact Kd.R_mono HO250.out (fun _ hk=>trivial),HB.out⟩
   ·rw [if_neg c4] at H
    exact absurd H (by simp)
  ·rw [if_neg c3] at H
   exact absurd H (by simp)

end Go.Proofs.Ythcnnfahlhklgaa.X
