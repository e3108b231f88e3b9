/- By hand: suffix.build: an index of bytes and an array: four rows are made beside its block, two are copied, the ranks and what neighbours have in common are filled in. -/
import Derived.Test.YthcnnfahlhklgaaXKs
import Derived.Test.YthcnnfahlhklgaaXx12
namespace Go.Proofs.Ythcnnfahlhklgaa.X
open Go.RowKit Go.Proofs.YthcnnfahlhklgaaW.PrintWords Go.Proofs.YthcnnfahlhklgaaW.PrintLast Go.Proofs.YthcnnfahlhklgaaW.PrintMore
attribute [local go_sem] max2_int min2_int max_two min_two
set_option linter.unusedVariables false
set_option linter.unusedSimpArgs false
def build_r : Nat→Nat→List Int→List Int→Int→Option (List Int)
 | 0,_,_,_,_=>none
 | k + 1,n,a,rk,i=>if i < (n : Int) then (if 0≤i then (if 0≤rd a i then (if rd a i < (n : Int) then build_r k n a (rk.set (rd a i).toNat i) (wrap64 (i + 1)) else none) else none) else none) else some rk
def build_l : Nat→Nat→List Int→List Int→List Int→List Int→Int→Int→Option (List Int)
 | 0,_,_,_,_,_,_,_=>none
 | k + 1,n,d,a,rk,l,h,i=>if i < (n : Int) then (if 0≤i then (if rd rk i = 0 then build_l k n d a rk l 0 (wrap64 (i + 1)) else
   (if 0≤wrap64 (rd rk i - 1) then (if wrap64 (rd rk i - 1) < (n : Int) then ((suffix_Index_same.f k [⟨true,d,a,rk,l⟩] (wrap64 (i + h)) (wrap64 (rd a (wrap64 (rd rk i - 1)) + h))).bind fun t =>
    (if 0≤rd rk i then (if rd rk i < (n : Int) then build_l k n d a rk (l.set (rd rk i).toNat (wrap64 (h + t))) (mx (wrap64 (wrap64 (h + t) - 1)) 0) (wrap64 (i + 1)) else none) else none)) else none) else none)) else none) else some l
def suffix_build.f (l0 l1 : List Int) : Option (List S82) :=
 if l0.length≤16777216 then (if l1.length = l0.length then ((build_r (l0.length + 1) l0.length l1 (List.replicate l0.length 0) 0).bind fun rk=>((build_l (l0.length + 2) l0.length l0 l1 rk (List.replicate l0.length 0) 0 0).bind fun l=>some [⟨true,l0,l1,rk,l⟩])) else none) else none
def suffix_build.T2 : Bool × List (List Nat × List Nat):=(true,[([],[]),([0,0],[0]),([],[]),([2,2],[2]),([],[]),([4,4],[4]),([],[]),([6,6],[6]),([1,3,5,7],[1,3,5,7]),([8],[8]),([9,0,1,2,3,4,5,6,7,8,9],[9])])
def suffix_build.B2 : List Nat:=[0,1,0,4,0,16,0,64,255,511,1023]
theorem suffix_build.tab2 : rtab .any (opsOf Try.f51 2) = suffix_build.T2:=by kernel_rfl
theorem suffix_build.bits2 : waitsOk suffix_build.T2.2 suffix_build.B2 = true:=by kernel_rfl
theorem suffix_build.info8 : (Try.prog.info? 5).map (fun i=>(i.zero,i.size,i.bytes)) = some (some (.int .u8 0),1,1):=by kernel_rfl
theorem suffix_build.info3 : (Try.prog.info? 3).map (fun i=>(i.zero,i.size,i.bytes)) = some (some (.int .i64 0),1,8):=by kernel_rfl

set_option maxHeartbeats 8000000 in
set_option maxRecDepth 100000 in
theorem suffix_build.calls (A0 : Option Addr) (c0 : Nat) (l0 : List Int) (A1 : Option Addr) (c1 : Nat) (l1 : List Int) (r : List S82) (w : World) (hr0 : Kd.C (Kd.int .u8) w A0 l0.length l0) (hc0 : l0.length≤c0) (hr1 : Kd.C (Kd.int .i64) w A1 l1.length l1) (hc1 : l1.length≤c1) (h : suffix_build.f l0 l1 = some r) :
  Calls Try.prog 51 #[.slice A0 l0.length c0,.slice A1 l1.length c1] w fun e w'=>∃ v0_ : Value,e = .returned (ptrOf v0_)∧Kd.S k82 82 w' w.heap.size (fun _=>True) v0_ r∧Below w.heap.size w w':=by
 have HR0:=Aside0.mk hr0
 have HC0:=Aside0.mk hc0
 clear hr0 hc0
 have HR1:=Aside0.mk hr1
 have HC1:=Aside0.mk hc1
 clear hr1 hc1
 have HB:=Aside0.mk (Below.refl w.heap.size w)
 unfold suffix_build.f at h
 by_cases hl0 : l0.length≤16777216
 case neg=>rw [if_neg hl0] at h; cases h
 rw [if_pos hl0] at h
 by_cases hl1 : l1.length = l0.length
 case neg=>rw [if_neg hl1] at h; cases h
 rw [if_pos hl1] at h
 replace h:=Option.bind_eq_some_iff.mp h
 obtain ⟨rk,h1,h⟩:=h
 replace h:=Option.bind_eq_some_iff.mp h
 obtain ⟨lc,h2,h⟩:=h
 simp only [Option.some.injEq] at h
 subst h
 have HL0:=Aside0.mk hl0
 have HL1:=Aside0.mk hl1
 have H1:=Aside0.mk h1
 have H2:=Aside0.mk h2
 clear hl0 hl1 h1 h2
 obtain ⟨n,hn⟩ : ∃ n : Nat,n = l0.length:=⟨_,rfl⟩
 have HN:=Aside0.mk hn
 clear hn
 go_enter Try.func51,Try.ntmps51
 go_wp2
 have n0_:=Aside0.mk (below_drew1 HB.out)
 clear HB
 have HB:=n0_
 clear n0_
 refine start_ (n:=11) (S:=fun w'=>True) (ds:=[]) #[false,false,false,false,false,false,false,false,false,false,false] (by kernel_rfl) rfl rfl trivial (fun hHeld=>?_)
 refine with_tabW suffix_build.tab2 suffix_build.bits2 (fun HT_ HW_=>?_)
 clear hHeld
 generalize w.drew = w5 at HB ⊢
 refine pure_ (i:=0) (N:=some 14) (v:=?_) (a':=?_) #[true,false,false,false,false,false,false,false,false,false,false] rfl rfl (any_of HT_.out (by kernel_rfl)) (fun _ _ _ h=>h) (Or.inl ⟨by rfl,?_⟩) ?_ ?_
 rotate_left
 ·intro w'
  go_simp
  with_reducible rfl
 rotate_left
 ·simp only [Act.put,List.setIfInBounds_toArray,List.set_cons_zero,List.set_cons_succ,i64_w,i32_w]
  rfl
 refine pure_ (i:=2) (N:=some 16) (v:=?_) (a':=?_) #[true,false,true,false,false,false,false,false,false,false,false] rfl rfl (any_of HT_.out (by kernel_rfl)) (fun _ _ _ h=>h) (Or.inl ⟨by rfl,?_⟩) ?_ ?_
 rotate_left
 ·intro w'
  go_simp
  with_reducible rfl
 rotate_left
 ·simp only [Act.put,List.setIfInBounds_toArray,List.set_cons_zero,List.set_cons_succ,i64_w,i32_w]
  rfl
 refine pure_ (i:=4) (N:=some 18) (v:=?_) (a':=?_) #[true,false,true,false,true,false,false,false,false,false,false] rfl rfl (any_of HT_.out (by kernel_rfl)) (fun _ _ _ h=>h) (Or.inl ⟨by rfl,?_⟩) ?_ ?_
 rotate_left
 ·intro w'
  go_simp
  with_reducible rfl
 rotate_left
 ·simp only [Act.put,List.setIfInBounds_toArray,List.set_cons_zero,List.set_cons_succ,i64_w,i32_w]
  rfl
 refine pure_ (i:=6) (N:=some 20) (v:=?_) (a':=?_) #[true,false,true,false,true,false,true,false,false,false,false] rfl rfl (any_of HT_.out (by kernel_rfl)) (fun _ _ _ h=>h) (Or.inl ⟨by rfl,?_⟩) ?_ ?_
 rotate_left
 ·intro w'
  go_simp
  with_reducible rfl
 rotate_left
 ·simp only [Act.put,List.setIfInBounds_toArray,List.set_cons_zero,List.set_cons_succ,i64_w,i32_w]
  rfl
 refine inv_at [1,3,5,7,8,9,10] (fun a0_ b a w'=>∃ (vD vA vR vL : Value) (g : Nat),a = putSel a0_ b [(1,15,vD),(3,17,vA),(5,19,vR),(7,21,vL),(8,22,.agg #[.bool true,vD,vA,vR,vL]),(9,23,.pointer (some ⟨g,0,none⟩)),(10,6,.pointer (some ⟨g,0,none⟩))]∧Below w.heap.size w w'∧(b 1 = true→(Kd.int .u8).R 5 w' w.heap.size (fun k_=>some k_ = (vD : Value).ownBlock) vD (List.replicate l0.length 0))∧(b 3 = true→(Kd.int .i64).R 3 w' w.heap.size (fun k_=>some k_ = (vA : Value).ownBlock) vA (List.replicate l0.length 0))∧(b 5 = true→(Kd.int .i64).R 3 w' w.heap.size (fun k_=>some k_ = (vR : Value).ownBlock) vR (List.replicate l0.length 0))∧(b 7 = true→(Kd.int .i64).R 3 w' w.heap.size (fun k_=>some k_ = (vL : Value).ownBlock) vL (List.replicate l0.length 0))∧(b 3 = true→b 5 = true→vA.ownBlock ≠ vR.ownBlock)∧(b 3 = true→b 7 = true→vA.ownBlock ≠ vL.ownBlock)∧(b 5 = true→b 7 = true→vR.ownBlock ≠ vL.ownBlock)∧(b 9 = true→w.heap.size≤g∧w'.heap[g]? = some (.cells #[.bool true,vD,vA,vR,vL] 82 (0,0)))) HT_.out HW_.out (by kernel_rfl) (by kernel_rfl) ?_ ?_ ?_
 ·exact ⟨.bool false,.bool false,.bool false,.bool false,0,by simp only [putSel,Bool.false_eq_true,if_false],HB.out,fun h_=>absurd h_ (by decide),fun h_=>absurd h_ (by decide),fun h_=>absurd h_ (by decide),fun h_=>absurd h_ (by decide),fun h_=>absurd h_ (by decide),fun h_=>absurd h_ (by decide),fun h_=>absurd h_ (by decide),fun h_=>absurd h_ (by decide)⟩
 ·clear HB
  refine steps_cons ?_ ?_
  ·rintro b a w' ⟨vD,vA,vR,vL,g,ha,QB,Q1,Q3,Q5,Q7,Q35,Q37,Q57,Q9⟩ hb_ hon hoff
   refine ⟨_,rfl,fun K hK=>?_⟩
   have e14 : a.tmps[14]? = some (.int .i64 (l0.length : Int)):=by rw [ha]; exact (putSel_off rfl).trans rfl
   refine Kd.R_make_step (Kd.int .u8) w'.heap.size 5 (by rfl) (N:=15) rfl 23 _ _ rfl (l0.length : Int) (eval_of e14) (eval_of e14) Try.underlying23 (.int .u8 0) 1 suffix_build.info8 rfl (by decide) (by omega) 0 (ok:=fun _=>True) (okp:=fun _=>True) rfl (fun _ hk=>hk) trivial (by omega) (by have:=HL0.out; rw [Int.toNat_natCast]; omega) (Below.refl _ _) (Nat.le_refl _) ?_
   intro v1 w1 ho hb hg hnew
   obtain ⟨k1,hk1,_⟩:=hnew
   have hlo:=Kd.R_base ho
   rw [Int.toNat_natCast] at ho
   refine hK.out _ _ ⟨v1,vA,vR,vL,g,?_,below_step QB hb,fun _=>Kd.R_lower (Kd.R_tight rfl ho) QB.size,fun h_=>Kd.R_grown (Q3 (by rwa [up_ne (by decide)] at h_)) hg (fun k_ _ e_=>by cases e_),fun h_=>Kd.R_grown (Q5 (by rwa [up_ne (by decide)] at h_)) hg (fun k_ _ e_=>by cases e_),fun h_=>Kd.R_grown (Q7 (by rwa [up_ne (by decide)] at h_)) hg (fun k_ _ e_=>by cases e_),fun h_ h2_=>Q35 (by rwa [up_ne (by decide)] at h_) (by rwa [up_ne (by decide)] at h2_),fun h_ h2_=>Q37 (by rwa [up_ne (by decide)] at h_) (by rwa [up_ne (by decide)] at h2_),fun h_ h2_=>Q57 (by rwa [up_ne (by decide)] at h_) (by rwa [up_ne (by decide)] at h2_),fun h_=>by rw [up_ne (by decide),hoff 9 (by kernel_rfl)] at h_; cases h_⟩
   have hb8 : up b 1 8 = false:=by rw [up_ne (by decide)]; exact hoff 8 (by kernel_rfl)
   have hb9 : up b 1 9 = false:=by rw [up_ne (by decide)]; exact hoff 9 (by kernel_rfl)
   have hb10 : up b 1 10 = false:=by rw [up_ne (by decide)]; exact hoff 10 (by kernel_rfl)
   have hb8' : b 8 = false:=hoff 8 (by kernel_rfl)
   have hb9' : b 9 = false:=hoff 9 (by kernel_rfl)
   have hb10' : b 10 = false:=hoff 10 (by kernel_rfl)
   rw [ha]
   refine Eq.trans (putSel_upk (v:=v1) 0 hb_ rfl rfl rfl) ?_
   simp only [List.set_cons_zero,List.set_cons_succ,putSel,hb8,hb9,hb10,Bool.false_eq_true,if_false]
  refine steps_cons ?_ ?_
  ·rintro b a w' ⟨vD,vA,vR,vL,g,ha,QB,Q1,Q3,Q5,Q7,Q35,Q37,Q57,Q9⟩ hb_ hon hoff
   refine ⟨_,rfl,fun K hK=>?_⟩
   have e16 : a.tmps[16]? = some (.int .i64 (l0.length : Int)):=by rw [ha]; exact (putSel_off rfl).trans rfl
   refine Kd.R_make_step (Kd.int .i64) w'.heap.size 3 (by rfl) (N:=17) rfl 34 _ _ rfl (l0.length : Int) (eval_of e16) (eval_of e16) Try.underlying34 (.int .i64 0) 8 suffix_build.info3 rfl (by decide) (by omega) 0 (ok:=fun _=>True) (okp:=fun _=>True) rfl (fun _ hk=>hk) trivial (by omega) (by have:=HL0.out; rw [Int.toNat_natCast]; omega) (Below.refl _ _) (Nat.le_refl _) ?_
   intro v1 w1 ho hb hg hnew
   obtain ⟨k1,hk1,_⟩:=hnew
   have hlo:=Kd.R_base ho
   rw [Int.toNat_natCast] at ho
   refine hK.out _ _ ⟨vD,v1,vR,vL,g,?_,below_step QB hb,fun h_=>Kd.R_grown (Q1 (by rwa [up_ne (by decide)] at h_)) hg (fun k_ _ e_=>by cases e_),fun _=>Kd.R_lower (Kd.R_tight rfl ho) QB.size,fun h_=>Kd.R_grown (Q5 (by rwa [up_ne (by decide)] at h_)) hg (fun k_ _ e_=>by cases e_),fun h_=>Kd.R_grown (Q7 (by rwa [up_ne (by decide)] at h_)) hg (fun k_ _ e_=>by cases e_),fun _ h_ e_=>by have hx:=Kd.R_lt (Q5 (by rwa [up_ne (by decide)] at h_)) k1 (by rw [← e_]; exact hk1); have:=hlo k1 hk1; omega,fun _ h_ e_=>by have hx:=Kd.R_lt (Q7 (by rwa [up_ne (by decide)] at h_)) k1 (by rw [← e_]; exact hk1); have:=hlo k1 hk1; omega,fun h_ h2_=>Q57 (by rwa [up_ne (by decide)] at h_) (by rwa [up_ne (by decide)] at h2_),fun h_=>by rw [up_ne (by decide),hoff 9 (by kernel_rfl)] at h_; cases h_⟩
   have hb8 : up b 3 8 = false:=by rw [up_ne (by decide)]; exact hoff 8 (by kernel_rfl)
   have hb9 : up b 3 9 = false:=by rw [up_ne (by decide)]; exact hoff 9 (by kernel_rfl)
   have hb10 : up b 3 10 = false:=by rw [up_ne (by decide)]; exact hoff 10 (by kernel_rfl)
   have hb8' : b 8 = false:=hoff 8 (by kernel_rfl)
   have hb9' : b 9 = false:=hoff 9 (by kernel_rfl)
   have hb10' : b 10 = false:=hoff 10 (by kernel_rfl)
   rw [ha]
   refine Eq.trans (putSel_upk (v:=v1) 1 hb_ rfl rfl rfl) ?_
   simp only [List.set_cons_zero,List.set_cons_succ,putSel,hb8,hb9,hb10,Bool.false_eq_true,if_false]
  refine steps_cons ?_ ?_
  ·rintro b a w' ⟨vD,vA,vR,vL,g,ha,QB,Q1,Q3,Q5,Q7,Q35,Q37,Q57,Q9⟩ hb_ hon hoff
   refine ⟨_,rfl,fun K hK=>?_⟩
   have e18 : a.tmps[18]? = some (.int .i64 (l0.length : Int)):=by rw [ha]; exact (putSel_off rfl).trans rfl
   refine Kd.R_make_step (Kd.int .i64) w'.heap.size 3 (by rfl) (N:=19) rfl 34 _ _ rfl (l0.length : Int) (eval_of e18) (eval_of e18) Try.underlying34 (.int .i64 0) 8 suffix_build.info3 rfl (by decide) (by omega) 0 (ok:=fun _=>True) (okp:=fun _=>True) rfl (fun _ hk=>hk) trivial (by omega) (by have:=HL0.out; rw [Int.toNat_natCast]; omega) (Below.refl _ _) (Nat.le_refl _) ?_
   intro v1 w1 ho hb hg hnew
   obtain ⟨k1,hk1,_⟩:=hnew
   have hlo:=Kd.R_base ho
   rw [Int.toNat_natCast] at ho
   refine hK.out _ _ ⟨vD,vA,v1,vL,g,?_,below_step QB hb,fun h_=>Kd.R_grown (Q1 (by rwa [up_ne (by decide)] at h_)) hg (fun k_ _ e_=>by cases e_),fun h_=>Kd.R_grown (Q3 (by rwa [up_ne (by decide)] at h_)) hg (fun k_ _ e_=>by cases e_),fun _=>Kd.R_lower (Kd.R_tight rfl ho) QB.size,fun h_=>Kd.R_grown (Q7 (by rwa [up_ne (by decide)] at h_)) hg (fun k_ _ e_=>by cases e_),fun h_ _ e_=>by have hx:=Kd.R_lt (Q3 (by rwa [up_ne (by decide)] at h_)) k1 (by rw [e_]; exact hk1); have:=hlo k1 hk1; omega,fun h_ h2_=>Q37 (by rwa [up_ne (by decide)] at h_) (by rwa [up_ne (by decide)] at h2_),fun _ h_ e_=>by have hx:=Kd.R_lt (Q7 (by rwa [up_ne (by decide)] at h_)) k1 (by rw [← e_]; exact hk1); have:=hlo k1 hk1; omega,fun h_=>by rw [up_ne (by decide),hoff 9 (by kernel_rfl)] at h_; cases h_⟩
   have hb8 : up b 5 8 = false:=by rw [up_ne (by decide)]; exact hoff 8 (by kernel_rfl)
   have hb9 : up b 5 9 = false:=by rw [up_ne (by decide)]; exact hoff 9 (by kernel_rfl)
   have hb10 : up b 5 10 = false:=by rw [up_ne (by decide)]; exact hoff 10 (by kernel_rfl)
   have hb8' : b 8 = false:=hoff 8 (by kernel_rfl)
   have hb9' : b 9 = false:=hoff 9 (by kernel_rfl)
   have hb10' : b 10 = false:=hoff 10 (by kernel_rfl)
   rw [ha]
   refine Eq.trans (putSel_upk (v:=v1) 2 hb_ rfl rfl rfl) ?_
   simp only [List.set_cons_zero,List.set_cons_succ,putSel,hb8,hb9,hb10,Bool.false_eq_true,if_false]
  refine steps_cons ?_ ?_
  ·rintro b a w' ⟨vD,vA,vR,vL,g,ha,QB,Q1,Q3,Q5,Q7,Q35,Q37,Q57,Q9⟩ hb_ hon hoff
   refine ⟨_,rfl,fun K hK=>?_⟩
   have e20 : a.tmps[20]? = some (.int .i64 (l0.length : Int)):=by rw [ha]; exact (putSel_off rfl).trans rfl
   refine Kd.R_make_step (Kd.int .i64) w'.heap.size 3 (by rfl) (N:=21) rfl 34 _ _ rfl (l0.length : Int) (eval_of e20) (eval_of e20) Try.underlying34 (.int .i64 0) 8 suffix_build.info3 rfl (by decide) (by omega) 0 (ok:=fun _=>True) (okp:=fun _=>True) rfl (fun _ hk=>hk) trivial (by omega) (by have:=HL0.out; rw [Int.toNat_natCast]; omega) (Below.refl _ _) (Nat.le_refl _) ?_
   intro v1 w1 ho hb hg hnew
   obtain ⟨k1,hk1,_⟩:=hnew
   have hlo:=Kd.R_base ho
   rw [Int.toNat_natCast] at ho
   refine hK.out _ _ ⟨vD,vA,vR,v1,g,?_,below_step QB hb,fun h_=>Kd.R_grown (Q1 (by rwa [up_ne (by decide)] at h_)) hg (fun k_ _ e_=>by cases e_),fun h_=>Kd.R_grown (Q3 (by rwa [up_ne (by decide)] at h_)) hg (fun k_ _ e_=>by cases e_),fun h_=>Kd.R_grown (Q5 (by rwa [up_ne (by decide)] at h_)) hg (fun k_ _ e_=>by cases e_),fun _=>Kd.R_lower (Kd.R_tight rfl ho) QB.size,fun h_ h2_=>Q35 (by rwa [up_ne (by decide)] at h_) (by rwa [up_ne (by decide)] at h2_),fun h_ _ e_=>by have hx:=Kd.R_lt (Q3 (by rwa [up_ne (by decide)] at h_)) k1 (by rw [e_]; exact hk1); have:=hlo k1 hk1; omega,fun h_ _ e_=>by have hx:=Kd.R_lt (Q5 (by rwa [up_ne (by decide)] at h_)) k1 (by rw [e_]; exact hk1); have:=hlo k1 hk1; omega,fun h_=>by rw [up_ne (by decide),hoff 9 (by kernel_rfl)] at h_; cases h_⟩
   have hb8 : up b 7 8 = false:=by rw [up_ne (by decide)]; exact hoff 8 (by kernel_rfl)
   have hb9 : up b 7 9 = false:=by rw [up_ne (by decide)]; exact hoff 9 (by kernel_rfl)
   have hb10 : up b 7 10 = false:=by rw [up_ne (by decide)]; exact hoff 10 (by kernel_rfl)
   have hb8' : b 8 = false:=hoff 8 (by kernel_rfl)
   have hb9' : b 9 = false:=hoff 9 (by kernel_rfl)
   have hb10' : b 10 = false:=hoff 10 (by kernel_rfl)
   rw [ha]
   refine Eq.trans (putSel_upk (v:=v1) 3 hb_ rfl rfl rfl) ?_
   simp only [List.set_cons_zero,List.set_cons_succ,putSel,hb8,hb9,hb10,Bool.false_eq_true,if_false]
  refine steps_cons ?_ ?_
  ·rintro b a w' ⟨vD,vA,vR,vL,g,ha,QB,Q1,Q3,Q5,Q7,Q35,Q37,Q57,Q9⟩ hb_ hon hoff
   refine ⟨_,rfl,fun K hK=>?_⟩
   obtain ⟨oA1,oc1,eo1⟩:=Kd.R_slice (Q1 (hon 1 (by kernel_rfl)))
   obtain ⟨oA3,oc3,eo3⟩:=Kd.R_slice (Q3 (hon 3 (by kernel_rfl)))
   obtain ⟨oA5,oc5,eo5⟩:=Kd.R_slice (Q5 (hon 5 (by kernel_rfl)))
   obtain ⟨oA7,oc7,eo7⟩:=Kd.R_slice (Q7 (hon 7 (by kernel_rfl)))
   have e15 : a.tmps[15]? = some vD:=by rw [ha]; exact putSel_on (e:=(1,15,vD)) 0 rfl rfl (hon 1 (by kernel_rfl)) rfl
   have e17 : a.tmps[17]? = some vA:=by rw [ha]; exact putSel_on (e:=(3,17,vA)) 1 rfl rfl (hon 3 (by kernel_rfl)) rfl
   have e19 : a.tmps[19]? = some vR:=by rw [ha]; exact putSel_on (e:=(5,19,vR)) 2 rfl rfl (hon 5 (by kernel_rfl)) rfl
   have e21 : a.tmps[21]? = some vL:=by rw [ha]; exact putSel_on (e:=(7,21,vL)) 3 rfl rfl (hon 7 (by kernel_rfl)) rfl
   replace ha:=Aside0.mk ha
   refine value_ (w1:=w') (v:=.agg #[.bool true,vD,vA,vR,vL]) (by rfl) rfl ?_ ?_
   ·rw [eo1,eo3,eo5,eo7] at *; go_simp
   refine hK.out _ _ ⟨vD,vA,vR,vL,g,?_,QB,fun h_=>Q1 (by rwa [up_ne (by decide)] at h_),fun h_=>Q3 (by rwa [up_ne (by decide)] at h_),fun h_=>Q5 (by rwa [up_ne (by decide)] at h_),fun h_=>Q7 (by rwa [up_ne (by decide)] at h_),fun h_ h2_=>Q35 (by rwa [up_ne (by decide)] at h_) (by rwa [up_ne (by decide)] at h2_),fun h_ h2_=>Q37 (by rwa [up_ne (by decide)] at h_) (by rwa [up_ne (by decide)] at h2_),fun h_ h2_=>Q57 (by rwa [up_ne (by decide)] at h_) (by rwa [up_ne (by decide)] at h2_),fun h_=>by rw [up_ne (by decide),hoff 9 (by kernel_rfl)] at h_; cases h_⟩
   rw [ha.out]; exact putSel_upk 4 hb_ rfl rfl rfl
  refine steps_cons ?_ ?_
  ·rintro b a w' ⟨vD,vA,vR,vL,g,ha,QB,Q1,Q3,Q5,Q7,Q35,Q37,Q57,Q9⟩ hb_ hon hoff
   refine ⟨_,rfl,fun K hK=>?_⟩
   obtain ⟨oA1,oc1,eo1⟩:=Kd.R_slice (Q1 (hon 1 (by kernel_rfl)))
   obtain ⟨oA3,oc3,eo3⟩:=Kd.R_slice (Q3 (hon 3 (by kernel_rfl)))
   obtain ⟨oA5,oc5,eo5⟩:=Kd.R_slice (Q5 (hon 5 (by kernel_rfl)))
   obtain ⟨oA7,oc7,eo7⟩:=Kd.R_slice (Q7 (hon 7 (by kernel_rfl)))
   have e22 : a.tmps[22]? = some (.agg #[.bool true,vD,vA,vR,vL]):=by rw [ha]; exact putSel_on (e:=(8,22,.agg #[.bool true,vD,vA,vR,vL])) 4 rfl rfl (hon 8 (by kernel_rfl)) rfl
   replace ha:=Aside0.mk ha
   refine value_ (w1:=w'.alloc (.cells #[.bool true,vD,vA,vR,vL] 82 (0,0))) (v:=.pointer (some ⟨w'.heap.size,0,none⟩)) (by rfl) rfl ?_ ?_
   ·go_simp
   refine hK.out _ _ ⟨vD,vA,vR,vL,w'.heap.size,?_,below_alloc QB _,fun h_=>Kd.R_alloc (Q1 (by rwa [up_ne (by decide)] at h_)) _,fun h_=>Kd.R_alloc (Q3 (by rwa [up_ne (by decide)] at h_)) _,fun h_=>Kd.R_alloc (Q5 (by rwa [up_ne (by decide)] at h_)) _,fun h_=>Kd.R_alloc (Q7 (by rwa [up_ne (by decide)] at h_)) _,fun h_ h2_=>Q35 (by rwa [up_ne (by decide)] at h_) (by rwa [up_ne (by decide)] at h2_),fun h_ h2_=>Q37 (by rwa [up_ne (by decide)] at h_) (by rwa [up_ne (by decide)] at h2_),fun h_ h2_=>Q57 (by rwa [up_ne (by decide)] at h_) (by rwa [up_ne (by decide)] at h2_),fun _=>⟨QB.size,by simpa using heap_alloc_new w' _⟩⟩
   have hb10 : up b 9 10 = false:=by rw [up_ne (by decide)]; exact hoff 10 (by kernel_rfl)
   rw [ha.out]
   refine Eq.trans (putSel_upk (v:=.pointer (some ⟨w'.heap.size,0,none⟩)) 5 hb_ rfl rfl rfl) ?_
   simp only [List.set_cons_zero,List.set_cons_succ,putSel,hb10,Bool.false_eq_true,if_false]
  refine steps_cons ?_ ?_
  ·rintro b a w' ⟨vD,vA,vR,vL,g,ha,QB,Q1,Q3,Q5,Q7,Q35,Q37,Q57,Q9⟩ hb_ hon hoff
   refine ⟨_,rfl,fun K hK=>?_⟩
   have e23 : a.tmps[23]? = some (.pointer (some ⟨g,0,none⟩)):=by rw [ha]; exact putSel_on (e:=(9,23,.pointer (some ⟨g,0,none⟩))) 5 rfl rfl (hon 9 (by kernel_rfl)) rfl
   replace ha:=Aside0.mk ha
   refine value_ (w1:=w') (v:=.pointer (some ⟨g,0,none⟩)) (by rfl) rfl ?_ ?_
   ·go_simp
   refine hK.out _ _ ⟨vD,vA,vR,vL,g,?_,QB,fun h_=>Q1 (by rwa [up_ne (by decide)] at h_),fun h_=>Q3 (by rwa [up_ne (by decide)] at h_),fun h_=>Q5 (by rwa [up_ne (by decide)] at h_),fun h_=>Q7 (by rwa [up_ne (by decide)] at h_),fun h_ h2_=>Q35 (by rwa [up_ne (by decide)] at h_) (by rwa [up_ne (by decide)] at h2_),fun h_ h2_=>Q37 (by rwa [up_ne (by decide)] at h_) (by rwa [up_ne (by decide)] at h2_),fun h_ h2_=>Q57 (by rwa [up_ne (by decide)] at h_) (by rwa [up_ne (by decide)] at h2_),fun h_=>Q9 (by rwa [up_ne (by decide)] at h_)⟩
   rw [ha.out]; exact putSel_upk 6 hb_ rfl rfl rfl
  exact steps_nil
 ·rintro b a w' hall ⟨vD,vA,vR,vL,g,ha,QB,Q1,Q3,Q5,Q7,Q35,Q37,Q57,Q9⟩
  clear HB
  have hb1_:=hall 1 (by kernel_rfl)
  have hb3_:=hall 3 (by kernel_rfl)
  have hb5_:=hall 5 (by kernel_rfl)
  have hb7_:=hall 7 (by kernel_rfl)
  have hb8_:=hall 8 (by kernel_rfl)
  have hb9_:=hall 9 (by kernel_rfl)
  have hb10_:=hall 10 (by kernel_rfl)
  subst ha
  simp only [putSel,hb1_,hb3_,hb5_,hb7_,hb8_,hb9_,hb10_,if_true,Act.put,List.setIfInBounds_toArray,List.set_cons_zero,List.set_cons_succ]
  have HS : Aside0 (St w w' g vD vA vR vL (List.replicate l0.length 0) (List.replicate l0.length 0) (List.replicate l0.length 0) (List.replicate l0.length 0)):=Aside0.mk ⟨QB,(Q9 hb9_).1,(Q9 hb9_).2,Q1 hb1_,Q3 hb3_,Q5 hb5_,Q7 hb7_,Q35 hb3_ hb5_,Q37 hb3_ hb7_,Q57 hb5_ hb7_⟩
  clear QB Q1 Q3 Q5 Q7 Q35 Q37 Q57 Q9 hall hb1_ hb3_ hb5_ hb7_ hb8_ hb9_ hb10_
  obtain ⟨oD,cD,eD⟩:=Kd.R_slice HS.out.D
  obtain ⟨oA,cA,eA⟩:=Kd.R_slice HS.out.A
  obtain ⟨oR,cR,eR⟩:=Kd.R_slice HS.out.R
  obtain ⟨oL,cL,eL⟩:=Kd.R_slice HS.out.L
  rw [List.length_replicate] at eD eA eR eL
  subst eD eA eR eL
  obtain ⟨hc1,hc2,hc3,hc4⟩:=HS.out.cells
  go_wp2_with (first | ((with_reducible refine gate_builtin (b:=.copy) (xs:=#[.tmp 27,.tmp 28]) rfl ?_); refine goesCopy (some 29) rfl rfl rfl #[.slice oD l0.length cD,.slice A0 l0.length c0] rfl ?_; (refine (copy_u8.calls (fun k_=>some k_ = (.slice oD l0.length cD : Value).ownBlock) (.slice oD l0.length cD) (List.replicate l0.length 0) _ _ l0 _ _ w _ ?side1 ?side2 ?side3 ?side4 rfl).mono ?_); (case side1=>exact HS.out.hb); (case side2=>exact HS.out.D); (case side3=>exact Kd.C_kept_came (Kd.heap_int .u8) HR0.out HS.out.hb (fun k_ hs_=>(fun e_=>Kd.R_base HS.out.D k_ e_.symm) hs_)); (case side4=>exact HC0.out); rintro e w12 ⟨rfl,hy0,hb,hkp⟩; refine ⟨_,rfl,?_⟩; have n0_:=Aside0.mk (HS.out.turnD hb hkp (Kd.R_reok rfl hy0 (fun k_ e_=>e_.symm))); clear HS; have HS:=n0_; clear n0_ hb hkp hy0 hc1 hc2 hc3 hc4; obtain ⟨hc1,hc2,hc3,hc4⟩:=HS.out.cells) | ((with_reducible refine gate_builtin (b:=.copy) (xs:=#[.tmp 33,.tmp 34]) rfl ?_); refine goesCopy (some 35) rfl rfl rfl #[.slice oA l0.length cA,.slice A1 l1.length c1] rfl ?_; (refine (copy_i64.calls (fun k_=>some k_ = (.slice oA l0.length cA : Value).ownBlock) (.slice oA l0.length cA) (List.replicate l0.length 0) _ _ l1 _ _ w _ ?side1 ?side2 ?side3 ?side4 rfl).mono ?_); (case side1=>exact HS.out.hb); (case side2=>exact HS.out.A); (case side3=>exact Kd.C_kept_came (Kd.heap_int .i64) HR1.out HS.out.hb (fun k_ hs_=>(fun e_=>Kd.R_base HS.out.A k_ e_.symm) hs_)); (case side4=>exact HC1.out); rintro e w12 ⟨rfl,hy0,hb,hkp⟩; refine ⟨_,rfl,?_⟩; have n0_:=Aside0.mk (HS.out.turnA hb hkp (Kd.R_reok rfl hy0 (fun k_ e_=>e_.symm))); clear HS; have HS:=n0_; clear n0_ hb hkp hy0 hc1 hc2 hc3 hc4; obtain ⟨hc1,hc2,hc3,hc4⟩:=HS.out.cells))
  have hcp0 : cpy (List.replicate l0.length 0) l0 = l0:=by unfold cpy; rw [List.length_replicate,List.take_length,List.drop_eq_nil_of_le (by simp),List.append_nil]
  have hcp1 : cpy (List.replicate l0.length 0) l1 = l1:=by unfold cpy; rw [List.length_replicate,← HL1.out,List.take_length,List.drop_eq_nil_of_le (by simp),List.append_nil]
  rw [hcp0,hcp1] at HS
  clear hcp0 hcp1 hc1 hc2 hc3 hc4
  go_loopg [41] (l0.length + 1) (fun kq v41 w'=>∃ (rk_ : List Int) (i_ : Int),v41 = .int .i64 i_∧Aside0 (build_r kq l0.length l1 rk_ i_ = some rk)∧Aside0 (kq≤l0.length + 1)∧Aside0 (St w w' g (.slice oD l0.length cD) (.slice oA l0.length cA) (.slice oR l0.length cR) (.slice oL l0.length cL) l0 l1 rk_ (List.replicate l0.length 0)))
  case atStart=>exact ⟨_,0,rfl,H1,⟨Nat.le_refl _⟩,HS⟩
  case round =>
   clear H1 HS
   obtain ⟨rk_,i_,rfl,HA,HK1,HS⟩:=hrel
   cases gk with
   | zero=>exact absurd HA.out (by simp [build_r])
   | succ k1 =>
    have H:=HA.out
    clear HA
    simp only [build_r] at H
    by_cases c5 : i_ < (l0.length : Int)
    ·rw [if_pos c5] at H
     by_cases c6 : 0≤i_
     case neg=>rw [if_neg c6] at H; cases H
     rw [if_pos c6] at H
     by_cases c7 : 0≤rd l1 i_
     case neg=>rw [if_neg c7] at H; cases H
     rw [if_pos c7] at H
     by_cases c8 : rd l1 i_ < (l0.length : Int)
     case neg=>rw [if_neg c8] at H; cases H
     rw [if_pos c8] at H
     have H':=Aside0.mk H
     clear H
     obtain ⟨ad1,e1,hx1⟩:=Kd.at_int (Kd.R_reads' HS.out.A).2.2 i_ c6 (by have e_:=(Kd.R_reads' HS.out.A).1; omega)
     subst e1
     obtain ⟨ad2,e2,_⟩:=Kd.at_int (Kd.R_reads' HS.out.R).2.2 (rd l1 i_) c7 (by have e_:=(Kd.R_reads' HS.out.R).1; omega)
     subst e2
     obtain ⟨gr,hgr⟩:=Kd.R_head HS.out.R
     subst hgr
     obtain ⟨hx2,hf2⟩:=Kd.R_celln 0 HS.out.R (rd l1 i_) c7 c8
     obtain ⟨hc1,hc2,hc3,hc4⟩:=HS.out.cells
     have c5b : decide (i_ < (l0.length : Int)) = true:=decide_eq_true c5
     have c6b:=eq_true c6
     have c5c:=eq_true c5
     have c7b:=eq_true c7
     have c8b:=eq_true c8
     clear c5 c6 c7 c8
     go_wp2_with (first | ((with_reducible refine gate_store (t:=3) (p:=52) rfl ?_); refine store_event (t:=3) (p:=52) (v:=?vo_w13) (w1:=(wr.setCell ⟨gr,(rd l1 i_).toNat,none⟩ (.int .i64 i_))) ?hg ?ho ?hn ?hr ?_; (case ho=>rfl); (case hg=>rfl); (case hn=>rfl); (case hr=>first | (go_simp; done) | (go_simp; rfl)); intro w13 hw; have n0_:=Aside0.mk (by rw [hw]; exact HS.out.putR (rd l1 i_) i_ : St w w13 g _ _ _ _ l0 l1 (rk_.set (rd l1 i_).toNat i_) _); clear HS hc1 hc2 hc3 hc4 hx1 hx2 hf2 hw; have HS:=n0_; clear n0_))
     go_roundg k1
     case measure=>have:=HK1.out; omega
     case rel=>exact ⟨_,(wrap64 (i_ + 1)),(by first | rfl | (simp; done) | (simp [*]; done)),H',⟨by have:=HK1.out; omega⟩,HS⟩
    ·rw [if_neg c5] at H
     obtain rfl:=Option.some.inj H
     have c5b : decide (i_ < (l0.length : Int)) = false:=decide_eq_false c5
     clear c5 H
     go_wp2
     go_loopg [9,55] (l0.length + 2) (fun kq v9 v55 w'=>∃ (l_ : List Int) (h_ i_ : Int),v9 = .int .i64 h_∧v55 = .int .i64 i_∧Aside0 (build_l kq l0.length l0 l1 rk_ l_ h_ i_ = some lc)∧Aside0 (kq≤l0.length + 2)∧Aside0 (St w w' g (.slice oD l0.length cD) (.slice oA l0.length cA) (.slice oR l0.length cR) (.slice oL l0.length cL) l0 l1 rk_ l_))
     case atStart=>exact ⟨_,0,0,rfl,rfl,H2,⟨Nat.le_refl _⟩,HS⟩
     case round =>
      clear H2 HS HK1 c5b
      obtain ⟨l_,h_,j_,rfl,rfl,HA,HK1,HS⟩:=hrel
      cases gk with
      | zero=>exact absurd HA.out (by simp [build_l])
      | succ k2 =>
       have H:=HA.out
       clear HA
       simp only [build_l] at H
       by_cases c5 : j_ < (l0.length : Int)
       ·rw [if_pos c5] at H
        by_cases c6 : 0≤j_
        case neg=>rw [if_neg c6] at H; cases H
        rw [if_pos c6] at H
        obtain ⟨ad2,e2,hx2⟩:=Kd.at_int (Kd.R_reads' HS.out.R).2.2 j_ c6 (by have e_:=(Kd.R_reads' HS.out.R).1; omega)
        subst e2
        obtain ⟨hc1,hc2,hc3,hc4⟩:=HS.out.cells
        have c5b : decide (j_ < (l0.length : Int)) = true:=decide_eq_true c5
        have c5c:=eq_true c5
        have c6b:=eq_true c6
        clear c5 c6
        by_cases c7 : rd rk_ j_ = 0
        ·rw [if_pos c7] at H
         have H':=Aside0.mk H
         clear H
         have c7b : (rd rk_ j_ == 0) = true:=beq_iff_eq.mpr c7
         clear c7
         go_wp2
         go_roundg k2
         case measure=>have:=HK1.out; omega
         case rel=>exact ⟨_,0,(wrap64 (j_ + 1)),rfl,(by first | rfl | (simp; done) | (simp [*]; done)),H',⟨by have:=HK1.out; omega⟩,HS⟩
        ·rw [if_neg c7] at H
         have c7b : (rd rk_ j_ == 0) = false:=beq_eq_false_iff_ne.mpr c7
         clear c7
         obtain ⟨q_,hq_⟩ : ∃ q_ : Int,wrap64 (rd rk_ j_ - 1) = q_:=⟨_,rfl⟩
         rw [hq_] at H
         have hqw : IntKind.i64.wrap (rd rk_ j_ - 1) = q_:=(i64_w _).trans hq_
         by_cases c8 : 0≤q_
         case neg=>rw [if_neg c8] at H; cases H
         rw [if_pos c8] at H
         by_cases c9 : q_ < (l0.length : Int)
         case neg=>rw [if_neg c9] at H; cases H
         rw [if_pos c9] at H
         replace H:=Option.bind_eq_some_iff.mp H
         obtain ⟨t_,A0_,H⟩:=H
         have HC:=Aside0.mk A0_
         clear A0_
         by_cases c10 : 0≤rd rk_ j_
         case neg=>rw [if_neg c10] at H; cases H
         rw [if_pos c10] at H
         by_cases c11 : rd rk_ j_ < (l0.length : Int)
         case neg=>rw [if_neg c11] at H; cases H
         rw [if_pos c11] at H
         obtain ⟨ad1,e1,hx1⟩:=Kd.at_int (Kd.R_reads' HS.out.A).2.2 q_ c8 (by have e_:=(Kd.R_reads' HS.out.A).1; omega)
         subst e1
         obtain ⟨ad3,e3,_⟩:=Kd.at_int (Kd.R_reads' HS.out.L).2.2 (rd rk_ j_) c10 (by have e_:=(Kd.R_reads' HS.out.L).1; omega)
         subst e3
         obtain ⟨gl,hgl⟩:=Kd.R_head HS.out.L
         subst hgl
         have c8b:=eq_true c8
         have c9b:=eq_true c9
         have c10b:=eq_true c10
         have c11b:=eq_true c11
         obtain ⟨hx3,hf3⟩:=Kd.R_celln 0 HS.out.L (rd rk_ j_) c10 c11
         clear c8 c9 c10 c11
         obtain ⟨m_,hm_⟩ : ∃ m_ : Int,mx (wrap64 (wrap64 (h_ + t_) - 1)) 0 = m_:=⟨_,rfl⟩
         rw [hm_] at H
         have hmw : (if wrap64 (wrap64 (h_ + t_) - 1) < 0 then (0 : Int) else wrap64 (wrap64 (h_ + t_) - 1)) = m_:=hm_
         have H':=Aside0.mk H
         clear H
         clear hm_
         go_wp2_with (first | ((with_reducible refine gate_callee (f:=53) rfl ?_); refine goesL_ (some 82) rfl rfl Try.func53 (by kernel_rfl) rfl #[.pointer (some ⟨g,0,none⟩),.int .i64 (wrap64 (j_ + h_)),.int .i64 (wrap64 (rd l1 q_ + h_))] rfl (by (try simp only [List.map_toArray,List.map_cons,List.map_nil]); first | done | rfl) ?_; (refine (suffix_Index_same.calls k2 (some ⟨g,0,none⟩) 1 [⟨true,l0,l1,rk_,l_⟩] _ _ t_ _ ?side1 ?side2 HC.out).mono ?_); (case side1=>exact HS.out.toC); (case side2=>exact Nat.le_refl _); rintro e w' ⟨rfl,⟨nd,rfl⟩⟩; refine ⟨_,rfl,?_⟩))
         go_roundg k2
         case measure=>have:=HK1.out; omega
         case rel=>exact ⟨_,m_,(wrap64 (j_ + 1)),(by first | rfl | (simp; done) | (simp [*]; done)),(by first | rfl | (simp; done) | (simp [*]; done)),H',⟨by have:=HK1.out; omega⟩,⟨(HS.out.drewN nd).putL (rd rk_ j_) (wrap64 (h_ + t_))⟩⟩
       ·rw [if_neg c5] at H
        obtain rfl:=Option.some.inj H
        have c5b : decide (j_ < (l0.length : Int)) = false:=decide_eq_false c5
        clear c5 H
        go_wp2
        go_ret
        exact ⟨.slice (some ⟨g,0,none⟩) 1 1,rfl,HS.out.toS,HS.out.hb⟩
end Go.Proofs.Ythcnnfahlhklgaa.X
