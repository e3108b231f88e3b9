-- Printed by wip/xprint.py of this repo (a wrapper of the session's own round the print).
import Derived.Test.YthcnnfahlhklgaaXx0
import Derived.Test.YthcnnfahlhklgaaXBA
namespace Go.Proofs.Ythcnnfahlhklgaa.X
open Go.RowKit Go.Proofs.YthcnnfahlhklgaaW.PrintWords Go.Proofs.YthcnnfahlhklgaaW.PrintLast Go.Proofs.YthcnnfahlhklgaaW.PrintMore
attribute [local go_sem] ptrOf_eql ptrOf_neq ptrOf_eqg ptrOf_neg str_leq str_geq str_gtr max2_int min2_int max_two min_two max_three min_three max_four min_four   -- for this text's walks alone
set_option linter.unusedVariables false
set_option linter.unusedSimpArgs false

/-! ### sais_buckets: function 92 -/
mutual
def sais_buckets.l0 : Nat→List Int→List Int→List Int→Int→Int→Option (List Int × List Int)
 | 0,_,_,_,_,_=>none
 | k + 1,x14,x16,x17,x18,x19=>if x19 < x18 then (if 0≤x19 then (if x19 < (x17.length : Int) then (if 0≤(rd x17 x19) then (if (rd x17 x19) < (x16.length : Int) then (sais_buckets.l0 k x14 (x16.set ((rd x17 x19) : Int).toNat (wrap64 ((rd x16 (rd x17 x19)) + 1))) x17 x18 (wrap64 (x19 + 1))) else (none)) else (none)) else (none)) else (none)) else (sais_buckets.l1 k 0 x14 x16 (x16.length : Int) 0)
def sais_buckets.l1 : Nat→Int→List Int→List Int→Int→Int→Option (List Int × List Int)
 | 0,_,_,_,_,_=>none
 | k + 1,x10,x14,x16,x31,x32=>if x32 < x31 then (if 0≤x32 then (if x32 < (x16.length : Int) then (if x32 < (x14.length : Int) then (sais_buckets.l1 k (wrap64 (x10 + (rd x16 x32))) (x14.set (x32 : Int).toNat x10) (x16.set (x32 : Int).toNat (wrap64 (x10 + (rd x16 x32)))) x31 (wrap64 (x32 + 1))) else (none)) else (none)) else (none)) else (some (x14,x16))
end
def sais_buckets.f (k : Nat) (a0 : Int) (l1 : List Int) : Option (List Int × List Int):=if 0≤a0 then (if (a0 : Int).toNat≤35184372088832 then (sais_buckets.l0 k (List.replicate (a0 : Int).toNat 0) (List.replicate (a0 : Int).toNat 0) l1 (l1.length : Int) 0) else (none)) else (none)
theorem sais_buckets.mono_l : ∀ k,(∀ y0 y1 y2 y3 y4,LeO (sais_buckets.l0 k y0 y1 y2 y3 y4) (sais_buckets.l0 (k + 1) y0 y1 y2 y3 y4))∧(∀ y0 y1 y2 y3 y4,LeO (sais_buckets.l1 k y0 y1 y2 y3 y4) (sais_buckets.l1 (k + 1) y0 y1 y2 y3 y4))
 | 0=>⟨fun _ _ _ _ _ r h=>by simp [sais_buckets.l0] at h,fun _ _ _ _ _ r h=>by simp [sais_buckets.l1] at h⟩
 | k + 1=>by
  obtain ⟨ih0,ih1⟩:=sais_buckets.mono_l k
  refine ⟨?_,?_⟩
  intro y0 y1 y2 y3 y4; unfold sais_buckets.l0; rotate_left
  intro y0 y1 y2 y3 y4; unfold sais_buckets.l1; rotate_left
  all_goals
   repeat' first
   | (with_reducible exact ih0 _ _ _ _ _)
   | (with_reducible exact ih1 _ _ _ _ _)
   | (with_reducible exact LeO.refl _)
   | (with_reducible exact LeO.none _)
   | (with_reducible refine LeO.ite ?_ ?_)
   | (with_reducible refine LeO.bind ?_ (fun _=>?_))
   | exact ih0 _ _ _ _ _
   | exact ih1 _ _ _ _ _
   | exact LeO.none _
   | refine LeO.ite ?_ ?_
   | refine LeO.bind ?_ (fun _=>?_)
theorem sais_buckets.mono : ∀ a0 a1 k,LeO (sais_buckets.f k a0 a1) (sais_buckets.f (k + 1) a0 a1):=by
 intro a0 a1 k
 obtain ⟨ih0,ih1⟩:=sais_buckets.mono_l k
 unfold sais_buckets.f
 repeat' first
   | (with_reducible exact ih0 _ _ _ _ _)
   | (with_reducible exact ih1 _ _ _ _ _)
   | (with_reducible exact LeO.refl _)
   | (with_reducible exact LeO.none _)
   | (with_reducible refine LeO.ite ?_ ?_)
   | (with_reducible refine LeO.bind ?_ (fun _=>?_))
   | exact ih0 _ _ _ _ _
   | exact ih1 _ _ _ _ _
   | exact LeO.none _
   | refine LeO.ite ?_ ?_
   | refine LeO.bind ?_ (fun _=>?_)
set_option maxHeartbeats 8000000 in
set_option maxRecDepth 100000 in
theorem sais_buckets.calls (k : Nat) (a0 : Int) (A1 : Option Addr) (c1 : Nat) (l1 : List Int) (r1 : List Int) (r2 : List Int) (w : World) (hr1 : Kd.C (Kd.int .i64) w A1 l1.length l1) (hc1 : l1.length≤c1) (h : sais_buckets.f k a0 l1 = some (r1,r2)) :
  Calls Try.prog 92 #[.int .i64 a0,.slice A1 l1.length c1] w fun e w'=>∃ v0_ v1_ : Value,e = .returned (.tuple #[v0_,v1_])∧Kd.R (Kd.int .i64) 3 w' w.heap.size (fun k_=>some k_ ≠ (v1_ : Value).ownBlock) v0_ r1∧Kd.R (Kd.int .i64) 3 w' w.heap.size (fun k_=>some k_ ≠ (v0_ : Value).ownBlock) v1_ r2∧Below w.heap.size w w':=by
 have HR1:=Aside0.mk hr1; have HC1:=Aside0.mk hc1; clear hr1 hc1; have HB:=Aside0.mk (Below.refl w.heap.size w); have H : (if 0≤a0 then (if (a0 : Int).toNat≤35184372088832 then (sais_buckets.l0 k (List.replicate (a0 : Int).toNat 0) (List.replicate (a0 : Int).toNat 0) l1 (l1.length : Int) 0) else (none)) else (none)) = some (r1,r2):=h; clear h
 by_cases c3 : 0≤a0
 ·rw [if_pos c3] at H
  have c3b0:=eq_true c3; have c3b1 : decide (0≤a0) = true:=decide_eq_true c3; clear c3
  by_cases c4 : (a0 : Int).toNat≤35184372088832
  ·rw [if_pos c4] at H
   have c4b0:=eq_true c4; have c4b1 : decide ((a0 : Int).toNat≤35184372088832) = true:=decide_eq_true c4; clear c4; obtain ⟨y122,hy122⟩ : ∃ y_ : List Int,y_ = (List.replicate (a0 : Int).toNat 0):=⟨_,rfl⟩
   replace H : (sais_buckets.l0 k y122 (List.replicate (a0 : Int).toNat 0) l1 (l1.length : Int) 0) = some (r1,r2):=by first | (rw [hy122]; with_reducible exact H) | (have H2_:=(Option.bind_some _ _).symm.trans H; rw [hy122]; with_reducible exact H2_) | (have H2_:=(Option.bind_some _ _).symm.trans H; with_reducible exact H2_) | with_reducible exact H | (rw [hy122]; exact H) | exact H
   have Ny122:=Aside0.mk hy122; clear hy122; obtain ⟨y125,hy125⟩ : ∃ y_ : List Int,y_ = (List.replicate (a0 : Int).toNat 0):=⟨_,rfl⟩
   replace H : (sais_buckets.l0 k y122 y125 l1 (l1.length : Int) 0) = some (r1,r2):=by first | (rw [hy125]; with_reducible exact H) | (have H2_:=(Option.bind_some _ _).symm.trans H; rw [hy125]; with_reducible exact H2_) | (have H2_:=(Option.bind_some _ _).symm.trans H; with_reducible exact H2_) | with_reducible exact H | (rw [hy125]; exact H) | exact H
   have Ny125:=Aside0.mk hy125; clear hy125; have H':=Aside0.mk H; clear H
   go_enter Try.func92,Try.ntmps92
   (try go_wp2); have n0_:=Aside0.mk (below_drew1 HB.out); clear HB; have HB:=n0_; clear n0_; refine start_ (n:=6) (S:=fun w'=>True) (ds:=[]) #[false,false,false,false,false,false] (by kernel_rfl) rfl rfl trivial (fun hHeld=>?_); generalize w.drew = w5 at HB hHeld ⊢; refine pure_ (i:=0) (N:=some 13) (v:=?_) (a':=?_) #[true,false,false,false,false,false] rfl rfl (by kernel_rfl) (fun _ _ _ h=>h) (Or.inl ⟨rfl,?_⟩) ?_ ?_; rotate_left; (· (intro w'; go_simp; (with_reducible rfl))); rotate_left; (· (simp only [Qs]; rfl)); refine pure_ (i:=2) (N:=some 15) (v:=?_) (a':=?_) #[true,false,true,false,false,false] rfl rfl (by kernel_rfl) (fun _ _ _ h=>h) (Or.inl ⟨rfl,?_⟩) ?_ ?_; rotate_left; (· (intro w'; go_simp; (with_reducible rfl))); rotate_left; (· (simp only [Qs]; rfl)); refine join_ (σ:=Value × Value) 1 #[true,true,true,true,true,false] (fun s_=>[(14,s_.1),(16,s_.2),(6,s_.1)]) (fun s_ w'=>(Kd.R (Kd.int .i64) 3 w' w.heap.size (fun k_=>some k_ ≠ (s_.2 : Value).ownBlock) s_.1 y122)∧(Kd.R (Kd.int .i64) 3 w' w.heap.size (fun k_=>some k_ ≠ (s_.1 : Value).ownBlock) s_.2 y125)∧(Below w.heap.size w w')) ?_ ?_; rotate_left
   ·intro hCont
    refine two_ (i:=1) (j:=3) (Ni:=some 14) (Nj:=some 16) #[true,true,true,false,false,false] #[true,false,true,true,false,false] rfl rfl rfl rfl (by kernel_rfl) (by decide) (by decide) (fun K hK=>?_) (fun K hK=>?_)
    ·skip
     refine Kd.R_make_step (Kd.int .i64) _ 3 (rfl) (N:=14) rfl 34 _ _ rfl a0 rfl rfl Try.underlying34 (.int .i64 0) 8 info3 rfl (by decide) (by omega) 0 (ok:=fun _=>True) (okp:=fun _=>True) rfl (fun _ hk=>hk) trivial (Qt) (Nat.le_trans (Nat.mul_le_mul_right _ (Qt : a0.toNat≤35184372088832)) (by omega)) (Below.refl _ _) (Nat.le_refl _) ?_; intro v123 w6 ho7 hb hg_ hnew_; clear hg_ hnew_
     (first | rw [← Ny122.out] at ho7 | (simp only [Int.reduceToNat] at ho7; rw [← Ny122.out] at ho7))
     have n0_:=Aside0.mk (Kd.R_lower ho7 (below_size HB.out)); have n1_:=Aside0.mk (below_step HB.out hb); clear HB; have HO124:=n0_; have HB:=n1_; clear n0_ n1_; clear hb ho7; refine hK.out _ _ trivial (fun hHeld=>?_); clear hK K; refine norm_ (a':=?_) ?_ ?_; rotate_left; (· (show Act.put _ (some 14) _ = _; simp only [Qs]; rfl)); refine pure_ (i:=4) (N:=some 6) (v:=?_) (a':=?_) #[true,true,true,false,true,false] rfl rfl (by kernel_rfl) (fun _ _ _ h=>h) (Or.inl ⟨rfl,?_⟩) ?_ ?_; rotate_left; (· (intro w'; go_simp; (with_reducible rfl))); rotate_left; (· (simp only [Qs]; rfl)); refine one_ (i:=3) (N:=some 16) #[true,true,true,true,true,false] rfl rfl (by kernel_rfl) (by decide) (fun K hK=>?_); refine Kd.R_make_step (Kd.int .i64) _ 3 (rfl) (N:=16) rfl 34 _ _ rfl a0 rfl rfl Try.underlying34 (.int .i64 0) 8 info3 rfl (by decide) (by omega) 0 (ok:=fun _=>True) (okp:=fun _=>True) rfl (fun _ hk=>hk) trivial (Qt) (Nat.le_trans (Nat.mul_le_mul_right _ (Qt : a0.toNat≤35184372088832)) (by omega)) (Below.refl _ _) (Nat.le_refl _) ?_; intro v126 w8 ho9 hb hg_ hnew_; clear hg_ hnew_
     (first | rw [← Ny125.out] at ho9 | (simp only [Int.reduceToNat] at ho9; rw [← Ny125.out] at ho9))
     have n0_:=Aside0.mk (Kd.R_elder' HO124.out (Kd.R_base ho9) hb); have n1_:=Aside0.mk (Kd.R_lower (Kd.R_new' ho9 (Kd.R_lt HO124.out)) (below_size HB.out)); have n2_:=Aside0.mk (below_step HB.out hb); clear HO124; clear HB; have HO124:=n0_; have HO127:=n1_; have HB:=n2_; clear n0_ n1_ n2_; clear hb ho9; refine hK.out _ _ trivial (fun hHeld=>?_); clear hK K; refine norm_ (a':=?_) ?_ ?_; rotate_left; (· (show Act.put _ (some 16) _ = _; simp only [Qs]; rfl)); exact norm_ (by simp only [putAll,Act.put,List.setIfInBounds_toArray,List.set_cons_zero,List.set_cons_succ]) (hCont (v123,v126) _ ⟨(by (with_reducible repeat first|apply Qa|apply Qb|apply Qc); exact Kd.R_mono HO124.out (fun _ hk=>hk.2)),(by (with_reducible repeat first|apply Qa|apply Qb|apply Qc); exact Kd.R_mono HO127.out (fun _ hk=>hk.2)),HB.out⟩)
    ·skip
     refine Kd.R_make_step (Kd.int .i64) _ 3 (rfl) (N:=16) rfl 34 _ _ rfl a0 rfl rfl Try.underlying34 (.int .i64 0) 8 info3 rfl (by decide) (by omega) 0 (ok:=fun _=>True) (okp:=fun _=>True) rfl (fun _ hk=>hk) trivial (Qt) (Nat.le_trans (Nat.mul_le_mul_right _ (Qt : a0.toNat≤35184372088832)) (by omega)) (Below.refl _ _) (Nat.le_refl _) ?_; intro v126 w6 ho7 hb hg_ hnew_; clear hg_ hnew_
     (first | rw [← Ny125.out] at ho7 | (simp only [Int.reduceToNat] at ho7; rw [← Ny125.out] at ho7))
     have n0_:=Aside0.mk (Kd.R_lower ho7 (below_size HB.out)); have n1_:=Aside0.mk (below_step HB.out hb); clear HB; have HO127:=n0_; have HB:=n1_; clear n0_ n1_; clear hb ho7; refine hK.out _ _ trivial (fun hHeld=>?_); clear hK K; refine norm_ (a':=?_) ?_ ?_; rotate_left; (· (show Act.put _ (some 16) _ = _; simp only [Qs]; rfl)); refine one_ (i:=1) (N:=some 14) #[true,true,true,true,false,false] rfl rfl (by kernel_rfl) (by decide) (fun K hK=>?_); refine Kd.R_make_step (Kd.int .i64) _ 3 (rfl) (N:=14) rfl 34 _ _ rfl a0 rfl rfl Try.underlying34 (.int .i64 0) 8 info3 rfl (by decide) (by omega) 0 (ok:=fun _=>True) (okp:=fun _=>True) rfl (fun _ hk=>hk) trivial (Qt) (Nat.le_trans (Nat.mul_le_mul_right _ (Qt : a0.toNat≤35184372088832)) (by omega)) (Below.refl _ _) (Nat.le_refl _) ?_; intro v123 w8 ho9 hb hg_ hnew_; clear hg_ hnew_
     (first | rw [← Ny122.out] at ho9 | (simp only [Int.reduceToNat] at ho9; rw [← Ny122.out] at ho9))
     have n0_:=Aside0.mk (Kd.R_elder' HO127.out (Kd.R_base ho9) hb); have n1_:=Aside0.mk (Kd.R_lower (Kd.R_new' ho9 (Kd.R_lt HO127.out)) (below_size HB.out)); have n2_:=Aside0.mk (below_step HB.out hb); clear HO127; clear HB; have HO127:=n0_; have HO124:=n1_; have HB:=n2_; clear n0_ n1_ n2_; clear hb ho9; refine hK.out _ _ trivial (fun hHeld=>?_); clear hK K; refine norm_ (a':=?_) ?_ ?_; rotate_left; (· (show Act.put _ (some 14) _ = _; simp only [Qs]; rfl)); refine pure_ (i:=4) (N:=some 6) (v:=?_) (a':=?_) #[true,true,true,true,true,false] rfl rfl (by kernel_rfl) (fun _ _ _ h=>h) (Or.inl ⟨rfl,?_⟩) ?_ ?_; rotate_left; (· (intro w'; go_simp; (with_reducible rfl))); rotate_left; (· (simp only [Qs]; rfl)); exact norm_ (by simp only [putAll,Act.put,List.setIfInBounds_toArray,List.set_cons_zero,List.set_cons_succ]) (hCont (v123,v126) _ ⟨(by (with_reducible repeat first|apply Qa|apply Qb|apply Qc); exact Kd.R_mono HO124.out (fun _ hk=>hk.2)),(by (with_reducible repeat first|apply Qa|apply Qb|apply Qc); exact Kd.R_mono HO127.out (fun _ hk=>hk.2)),HB.out⟩)
   rintro ⟨v123,v126⟩ w10 ⟨h0_,h1_,h2_⟩; have n0_ : Aside0 (Kd.R (Kd.int .i64) 3 w10 w.heap.size (fun k_=>some k_ ≠ (v126 : Value).ownBlock) v123 y122):=⟨h0_⟩; have n1_ : Aside0 (Kd.R (Kd.int .i64) 3 w10 w.heap.size (fun k_=>some k_ ≠ (v123 : Value).ownBlock) v126 y125):=⟨h1_⟩; have n2_ : Aside0 (Below w.heap.size w w10):=⟨h2_⟩; clear HB; clear h0_ h1_ h2_; have HO124:=n0_; have HO127:=n1_; have HB:=n2_; clear n0_ n1_ n2_; have hHeld:=trivial; refine norm_ (a':=?_) ?_ ?_; rotate_left; (· (simp only [putAll,Act.put,List.setIfInBounds_toArray,List.set_cons_zero,List.set_cons_succ]; rfl)); refine pure_ (i:=5) (N:=some 7) (v:=?_) (a':=?_) #[true,true,true,true,true,true] rfl rfl (by kernel_rfl) (fun _ _ _ h=>h) (Or.inl ⟨rfl,?_⟩) ?_ ?_; rotate_left; (· (intro w'; go_simp; (with_reducible rfl))); rotate_left; (· (simp only [Qs]; rfl)); refine done_ (by kernel_rfl) ?_; (try go_wp2)
   go_loopg [19] k (fun kq v19 w'=>∃ (x16_1 : List Int) (x19_1 : Int),v19 = .int .i64 x19_1∧Aside0 (sais_buckets.l0 kq y122 x16_1 l1 (l1.length : Int) x19_1 = some (r1,r2))∧Aside0 (kq≤k)∧Aside0 (Kd.R (Kd.int .i64) 3 w' w.heap.size (fun k_=>some k_ ≠ (v126 : Value).ownBlock) v123 y122)∧Aside0 (Kd.R (Kd.int .i64) 3 w' w.heap.size (fun k_=>some k_ ≠ (v123 : Value).ownBlock) v126 x16_1)∧Aside0 (Below w.heap.size w w'))
   case atStart=>exact ⟨(y125),(0),(rfl),H',⟨Nat.le_refl _⟩,⟨by (with_reducible repeat first|apply Qa|apply Qb|apply Qc); exact HO124.out⟩,⟨by (with_reducible repeat first|apply Qa|apply Qb|apply Qc); exact HO127.out⟩,⟨HB.out⟩⟩
   case round =>
    clear H'; obtain ⟨x16_1,x19_1,rfl,HA,HK1,HO_14,HO_16,HB⟩:=hrel
    cases gk with
    | zero=>exact absurd HA.out (by simp [sais_buckets.l0])
    | succ k1 =>
     have H:=HA.out; clear HA; simp only [sais_buckets.l0] at H
     by_cases c11 : x19_1 < (l1.length : Int)
     ·rw [if_pos c11] at H
      have c11b0 : decide (x19_1 < (l1.length : Int)) = true:=decide_eq_true c11; clear c11
      by_cases c12 : 0≤x19_1
      ·rw [if_pos c12] at H
       have c12b0 : decide (0≤x19_1) = true:=decide_eq_true c12; clear c12
       by_cases c13 : x19_1 < (l1.length : Int)
       ·rw [if_pos c13] at H
        have c13b0 : decide (x19_1 < (l1.length : Int)) = true:=decide_eq_true c13; clear c13
        by_cases c14 : 0≤(rd l1 x19_1)
        ·rw [if_pos c14] at H
         have c14b0 : decide (0≤(rd l1 x19_1)) = true:=decide_eq_true c14; clear c14
         by_cases c15 : (rd l1 x19_1) < (x16_1.length : Int)
         ·rw [if_pos c15] at H
          have c15b0 : decide ((rd l1 x19_1) < (x16_1.length : Int)) = true:=decide_eq_true c15; clear c15; obtain ⟨y130,hy130⟩ : ∃ y_ : List Int,y_ = (x16_1.set ((rd l1 x19_1) : Int).toNat (wrap64 ((rd x16_1 (rd l1 x19_1)) + 1))):=⟨_,rfl⟩
          replace H : (sais_buckets.l0 k1 y122 y130 l1 (l1.length : Int) (wrap64 (x19_1 + 1))) = some (r1,r2):=by first | (rw [hy130]; with_reducible exact H) | (have H2_:=(Option.bind_some _ _).symm.trans H; rw [hy130]; with_reducible exact H2_) | (have H2_:=(Option.bind_some _ _).symm.trans H; with_reducible exact H2_) | with_reducible exact H | (rw [hy130]; exact H) | exact H
          have Ny130:=Aside0.mk hy130; clear hy130; have H':=Aside0.mk H; clear H; have p128 : 0≤(x19_1 : Int):=Qt; have q128 : x19_1 < (l1.length : Int):=Qt; obtain ⟨ad128,e128,hx128_0⟩:=Kd.at_int HR1.out x19_1 p128 q128; cases e128; replace hx128_0:=(HB.out.cell (World.block_lt_of_cell? w _ hx128_0)).trans hx128_0; replace p128:=eq_true p128; replace q128:=eq_true q128; obtain ⟨Ao17,co17,eo17⟩:=Kd.R_slice HO_16.out; subst eo17; have p129 : 0≤((rd l1 x19_1) : Int):=Qt; have q129 : (rd l1 x19_1) < (x16_1.length : Int):=Qt; obtain ⟨ad129,e129,hx129_0⟩:=Kd.at_int (Kd.R_reads' HO_16.out).2.2 (rd l1 x19_1) p129 q129; cases e129; replace p129:=eq_true p129; replace q129:=eq_true q129; have p16 : 0≤((rd l1 x19_1) : Int):=Qt; have q16 : ((rd l1 x19_1) : Int) < ((x16_1.length : Int) : Int):=Qt; obtain ⟨go16,co16,eo16,gb16,gl16,cl16,HG16⟩:=Kd.R_form HO_16.out (by first | omega | (have e_:=(Kd.R_reads' HO_16.out).1; omega))
          (first | cases eo16 | (injection eo16 with ea_ en_ ec_; (first | subst ea_ | (injection ea_ with ea_; subst ea_)); subst ec_; clear en_))
          have GB16:=Aside0.mk gb16; have GG16:=Aside0.mk HG16; clear gb16 gl16 HG16
          (first | simp only [add_plain] at hx129_0 | skip)
          obtain ⟨hx16_0,hf16_0⟩:=Kd.R_celln 0 HO_16.out ((rd l1 x19_1) : Int) p16 q16; replace p16:=eq_true p16; replace q16:=eq_true q16; have HP18:=Kd.R_putg HO_16.out ((rd l1 x19_1) : Int) (wrap64 ((rd x16_1 (rd l1 x19_1)) + 1))
          go_wp2_with (first | ((with_reducible refine gate_store (t:=3) (p:=28) rfl ?_); refine store_event (t:=3) (p:=28) (v:=?vo_w19) (w1:=(wr.setCell ⟨go16,((rd l1 x19_1) : Int).toNat,none⟩ (.int .i64 (wrap64 ((rd x16_1 (rd l1 x19_1)) + 1))))) ?hg ?ho ?hn ?hr ?_; (case ho=>rfl); (case hg=>rfl); (case hn=>rfl); (case hr=>first | (go_simp; done) | (go_simp; rfl)); intro w19 hw; have hg : wr.grownBy w19 (some go16):=(by rw [hw]; exact HP18.2); have hp_ : Kd.R (Kd.int .i64) 3 w19 w.heap.size (fun k_=>some k_ ≠ (v123 : Value).ownBlock) (.slice (some ⟨go16,0,none⟩) x16_1.length co17) y130:=(by rw [hw,Ny130.out]; exact HP18.1); clear HP18; have n0_:=Aside0.mk (Kd.R_after (v:=(.slice (some ⟨go16,0,none⟩) x16_1.length co17)) (v1:=(.slice (some ⟨go16,0,none⟩) x16_1.length co17)) (ok:=(fun _=>True)) (by (with_reducible repeat first|apply Qa|apply Qb|apply Qc); exact Kd.R_mono HO_14.out (fun _ hk=>⟨trivial,hk⟩)) hg (.inl rfl)); have n1_:=Aside0.mk (hp_); have n2_:=Aside0.mk ((by rw [hw]; exact below_set (HB.out) GB16.out : Below w.heap.size w w19)); clear HO_14; clear HO_16; clear HB; have HO_14:=n0_; have HO_16:=n1_; have HB:=n2_; clear n0_ n1_ n2_; clear hg hw hp_))
          go_roundg k1
          case measure=>have:=HK1.out; omega
          case rel=>exact ⟨(y130),(wrap64 (x19_1 + 1)),(rfl),H',⟨by have:=HK1.out; omega⟩,⟨by (with_reducible repeat first|apply Qa|apply Qb|apply Qc); exact Kd.R_mono HO_14.out (fun _ hk=>hk.2)⟩,⟨by (with_reducible repeat first|apply Qa|apply Qb|apply Qc); exact HO_16.out⟩,⟨HB.out⟩⟩
         (· (rw [if_neg c15] at H; exact absurd H (by simp)))
        (· (rw [if_neg c14] at H; exact absurd H (by simp)))
       (· (rw [if_neg c13] at H; exact absurd H (by simp)))
      (· (rw [if_neg c12] at H; exact absurd H (by simp)))
     ·rw [if_neg c11] at H
      have c11b0 : decide (x19_1 < (l1.length : Int)) = false:=decide_eq_false c11; clear c11; have H':=Aside0.mk H; clear H; obtain ⟨Ao20,co20,eo20⟩:=Kd.R_slice HO_16.out; subst eo20
      go_wp2
      go_loopg [10,32] k1 (fun kq v10 v32 w'=>∃ (x10_2 : Int) (x14_2 : List Int) (x16_2 : List Int) (x32_2 : Int),v10 = .int .i64 x10_2∧v32 = .int .i64 x32_2∧Aside0 (sais_buckets.l1 kq x10_2 x14_2 x16_2 (x16_1.length : Int) x32_2 = some (r1,r2))∧Aside0 (kq≤k1)∧Aside0 (Kd.R (Kd.int .i64) 3 w' w.heap.size (fun k_=>some k_ ≠ ((.slice Ao20 x16_1.length co20) : Value).ownBlock) v123 x14_2)∧Aside0 (Kd.R (Kd.int .i64) 3 w' w.heap.size (fun k_=>some k_ ≠ (v123 : Value).ownBlock) (.slice Ao20 x16_1.length co20) x16_2)∧Aside0 (Below w.heap.size w w'))
      case atStart=>exact ⟨(0),(y122),(x16_1),(0),(rfl),(rfl),H',⟨Nat.le_refl _⟩,⟨by (with_reducible repeat first|apply Qa|apply Qb|apply Qc); exact HO_14.out⟩,⟨by (with_reducible repeat first|apply Qa|apply Qb|apply Qc); exact HO_16.out⟩,⟨HB.out⟩⟩
      case round =>
       clear H'; obtain ⟨x10_2,x14_2,x16_2,x32_2,rfl,rfl,HA,HK2,HO_14,HO_16,HB⟩:=hrel; have hl16_2:=(Kd.R_reads' HO_16.out).1; rw [hl16_2] at HO_16; (try simp only [hl16_2]); (try simp only [hl16_2] at HO_14)
       cases gk with
       | zero=>exact absurd HA.out (by simp [sais_buckets.l1])
       | succ k2 =>
        have H:=HA.out; clear HA; simp only [sais_buckets.l1] at H
        by_cases c21 : x32_2 < (x16_1.length : Int)
        ·rw [if_pos c21] at H
         have c21b0 : decide (x32_2 < (x16_1.length : Int)) = true:=decide_eq_true c21; (try (have c21z0:=c21b0; simp only [hl16_2] at c21z0)); clear c21
         by_cases c22 : 0≤x32_2
         ·rw [if_pos c22] at H
          have c22b0 : decide (0≤x32_2) = true:=decide_eq_true c22; clear c22
          by_cases c23 : x32_2 < (x16_2.length : Int)
          ·rw [if_pos c23] at H
           have c23b0 : decide (x32_2 < (x16_2.length : Int)) = true:=decide_eq_true c23; (try (have c23z0:=c23b0; simp only [hl16_2] at c23z0)); clear c23
           by_cases c24 : x32_2 < (x14_2.length : Int)
           ·rw [if_pos c24] at H
            have c24b0 : decide (x32_2 < (x14_2.length : Int)) = true:=decide_eq_true c24; (try (have c24z0:=c24b0; simp only [hl16_2] at c24z0)); clear c24; obtain ⟨y132,hy132⟩ : ∃ y_ : List Int,y_ = (x14_2.set (x32_2 : Int).toNat x10_2):=⟨_,rfl⟩
            replace H : (sais_buckets.l1 k2 (wrap64 (x10_2 + (rd x16_2 x32_2))) y132 (x16_2.set (x32_2 : Int).toNat (wrap64 (x10_2 + (rd x16_2 x32_2)))) (x16_1.length : Int) (wrap64 (x32_2 + 1))) = some (r1,r2):=by first | (rw [hy132]; with_reducible exact H) | (have H2_:=(Option.bind_some _ _).symm.trans H; rw [hy132]; with_reducible exact H2_) | (have H2_:=(Option.bind_some _ _).symm.trans H; with_reducible exact H2_) | with_reducible exact H | (rw [hy132]; exact H) | exact H
            have Ny132:=Aside0.mk hy132; clear hy132; obtain ⟨y133,hy133⟩ : ∃ y_ : List Int,y_ = (x16_2.set (x32_2 : Int).toNat (wrap64 (x10_2 + (rd x16_2 x32_2)))):=⟨_,rfl⟩
            replace H : (sais_buckets.l1 k2 (wrap64 (x10_2 + (rd x16_2 x32_2))) y132 y133 (x16_1.length : Int) (wrap64 (x32_2 + 1))) = some (r1,r2):=by first | (rw [hy133]; with_reducible exact H) | (have H2_:=(Option.bind_some _ _).symm.trans H; rw [hy133]; with_reducible exact H2_) | (have H2_:=(Option.bind_some _ _).symm.trans H; with_reducible exact H2_) | with_reducible exact H | (rw [hy133]; exact H) | exact H
            have Ny133:=Aside0.mk hy133; clear hy133; have H':=Aside0.mk H; clear H; have p131 : 0≤(x32_2 : Int):=Qt; have q131 : x32_2 < (x16_2.length : Int):=Qt; obtain ⟨ad131,e131,hx131_0⟩:=Kd.at_int (Kd.R_reads' HO_16.out).2.2 x32_2 p131 q131; cases e131; replace p131:=eq_true p131; replace q131:=eq_true q131; have p25 : 0≤(x32_2 : Int):=Qt; have q25 : (x32_2 : Int) < ((x14_2.length : Int) : Int):=Qt; obtain ⟨go25,co25,eo25,gb25,gl25,cl25,HG25⟩:=Kd.R_form HO_14.out (by first | omega | (have e_:=(Kd.R_reads' HO_14.out).1; omega))
            (first | cases eo25 | (injection eo25 with ea_ en_ ec_; (first | subst ea_ | (injection ea_ with ea_; subst ea_)); subst ec_; clear en_))
            have GB25:=Aside0.mk gb25; have GG25:=Aside0.mk HG25; clear gb25 gl25 HG25; obtain ⟨hx25_0,hf25_0⟩:=Kd.R_celln 0 HO_14.out (x32_2 : Int) p25 q25; replace p25:=eq_true p25; replace q25:=eq_true q25; have HP27:=Kd.R_putg HO_14.out (x32_2 : Int) x10_2
            go_wp2_with (first | ((with_reducible refine gate_store (t:=3) (p:=40) rfl ?_); refine store_event (t:=3) (p:=40) (v:=?vo_w28) (w1:=(wr.setCell ⟨go25,(x32_2 : Int).toNat,none⟩ (.int .i64 x10_2))) ?hg ?ho ?hn ?hr ?_; (case ho=>rfl); (case hg=>rfl); (case hn=>rfl); (case hr=>first | (go_simp; done) | (go_simp; rfl)); intro w28 hw; have hg : wr.grownBy w28 (some go25):=(by rw [hw]; exact HP27.2); have hp_ : Kd.R (Kd.int .i64) 3 w28 w.heap.size (fun k_=>some k_ ≠ (.slice (some ad131) x16_2.length co20 : Value).ownBlock) (.slice (some ⟨go25,0,none⟩) x14_2.length co25) y132:=(by rw [hw,Ny132.out]; exact HP27.1); clear HP27; have n0_:=Aside0.mk (hp_); have n1_:=Aside0.mk (Kd.R_after (v:=(.slice (some ⟨go25,0,none⟩) x14_2.length co25)) (v1:=(.slice (some ⟨go25,0,none⟩) x14_2.length co25)) (ok:=(fun _=>True)) (by (with_reducible repeat first|apply Qa|apply Qb|apply Qc); exact Kd.R_mono HO_16.out (fun _ hk=>⟨trivial,hk⟩)) hg (.inl rfl)); have n2_:=Aside0.mk ((by rw [hw]; exact below_set (HB.out) GB25.out : Below w.heap.size w w28)); clear HO_14; clear HO_16; clear HB; have HO_14:=n0_; have HO_16:=n1_; have HB:=n2_; clear n0_ n1_ n2_; clear hg hw hp_; have p26 : 0≤(x32_2 : Int):=Qt; have q26 : (x32_2 : Int) < ((x16_2.length : Int) : Int):=Qt; obtain ⟨go26,co26,eo26,gb26,gl26,cl26,HG26⟩:=Kd.R_form HO_16.out (by first | omega | (have e_:=(Kd.R_reads' HO_16.out).1; omega)); (first | cases eo26 | (injection eo26 with ea_ en_ ec_; (first | subst ea_ | (injection ea_ with ea_; subst ea_)); subst ec_; clear en_)); have GB26:=Aside0.mk gb26; have GG26:=Aside0.mk HG26; clear gb26 gl26 HG26; (first | simp only [add_plain] at hx131_0 | skip); obtain ⟨hx26_0,hf26_0⟩:=Kd.R_celln 0 HO_16.out (x32_2 : Int) p26 q26; replace p26:=eq_true p26; replace q26:=eq_true q26; have n_:=Aside0.mk (Kd.R_mono (ok':=(fun k_=>some k_ ≠ (.slice (some ⟨go25,0,none⟩) x14_2.length co25 : Value).ownBlock)) HO_16.out (fun k_ hk=>hk.2)); clear HO_16; have HO_16:=n_; clear n_; obtain ⟨hy29_,hz29_⟩:=Kd.R_celln 0 HO_16.out (x32_2 : Int) (Qt) (Qt); have HP29:=Kd.R_putg HO_16.out (x32_2 : Int) (wrap64 (x10_2 + (rd x16_2 x32_2)))) | ((with_reducible refine gate_store (t:=3) (p:=47) rfl ?_); refine store_event (t:=3) (p:=47) (v:=?vo_w30) (w1:=(w28.setCell ⟨go26,(x32_2 : Int).toNat,none⟩ (.int .i64 (wrap64 (x10_2 + (rd x16_2 x32_2)))))) ?hg ?ho ?hn ?hr ?_; (case ho=>rfl); (case hg=>rfl); (case hn=>rfl); (case hr=>first | (go_simp; done) | (go_simp; rfl)); intro w30 hw; have hg : w28.grownBy w30 (some go26):=(by rw [hw]; exact HP29.2); have hp_ : Kd.R (Kd.int .i64) 3 w30 w.heap.size (fun k_=>some k_ ≠ (.slice (some ⟨go25,0,none⟩) x14_2.length co25 : Value).ownBlock) (.slice (some ⟨go26,0,none⟩) x16_2.length co20) y133:=(by rw [hw,Ny133.out]; exact HP29.1); clear HP29; have n0_:=Aside0.mk (Kd.R_after (v:=(.slice (some ⟨go26,0,none⟩) x16_2.length co20)) (v1:=(.slice (some ⟨go26,0,none⟩) x16_2.length co20)) (ok:=(fun _=>True)) (by (with_reducible repeat first|apply Qa|apply Qb|apply Qc); exact Kd.R_mono HO_14.out (fun _ hk=>⟨trivial,hk⟩)) hg (.inl rfl)); have n1_:=Aside0.mk (hp_); have n2_:=Aside0.mk ((by rw [hw]; exact below_set (HB.out) GB26.out : Below w.heap.size w w30)); clear HO_14; clear HO_16; clear HB; have HO_14:=n0_; have HO_16:=n1_; have HB:=n2_; clear n0_ n1_ n2_; clear hg hw hp_))
            (try simp only [← hl16_2])
            go_roundg k2
            case measure=>have:=HK1.out; have:=HK2.out; omega
            case rel=>exact ⟨(wrap64 (x10_2 + (rd x16_2 x32_2))),(y132),(y133),(wrap64 (x32_2 + 1)),(rfl),(rfl),H',⟨by have:=HK1.out; have:=HK2.out; omega⟩,⟨by (try simp only [hl16_2]); (with_reducible repeat first|apply Qa|apply Qb|apply Qc); exact Kd.R_mono HO_14.out (fun _ hk=>hk.2)⟩,⟨by (try simp only [hl16_2]); (with_reducible repeat first|apply Qa|apply Qb|apply Qc); exact HO_16.out⟩,⟨HB.out⟩⟩
           (· (rw [if_neg c24] at H; exact absurd H (by simp)))
          (· (rw [if_neg c23] at H; exact absurd H (by simp)))
         (· (rw [if_neg c22] at H; exact absurd H (by simp)))
        ·rw [if_neg c21] at H
         have c21b0 : decide (x32_2 < (x16_1.length : Int)) = false:=decide_eq_false c21; (try (have c21z0:=c21b0; simp only [hl16_2] at c21z0)); clear c21; simp only [Option.some.injEq,Prod.mk.injEq] at H; obtain ⟨rfl,rfl⟩:=H
         go_wp2
         go_ret2
         exact ⟨_,_,rfl,by (with_reducible repeat first|apply Qa|apply Qb|apply Qc); exact HO_14.out,by (with_reducible repeat first|apply Qa|apply Qb|apply Qc); exact HO_16.out,HB.out⟩
  (· (rw [if_neg c4] at H; exact absurd H (by simp)))
 (· (rw [if_neg c3] at H; exact absurd H (by simp)))

end Go.Proofs.Ythcnnfahlhklgaa.X
