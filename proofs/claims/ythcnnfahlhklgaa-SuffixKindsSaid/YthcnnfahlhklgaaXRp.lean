/- By hand: (*suffix.Index).Repeats: a stack of groups; what is found, sorted. -/
import Derived.Test.YthcnnfahlhklgaaXRg
import Derived.Test.YthcnnfahlhklgaaXN
import Derived.Test.YthcnnfahlhklgaaXx15
namespace Go.Proofs.Ythcnnfahlhklgaa.X
open Go.RowKit Go.Proofs.YthcnnfahlhklgaaW.PrintWords Go.Proofs.YthcnnfahlhklgaaW.PrintLast Go.Proofs.YthcnnfahlhklgaaW.PrintMore
open Go.Sort
attribute [local go_sem] max2_int min2_int max_two min_two
set_option linter.unusedVariables false
set_option linter.unusedSimpArgs false
def popS (r c least : Int) : List Gp→Gp→List Fd→List Gp × Gp × List Fd
 | [],now,l=>([],now,l)
 | g :: st,now,l=>if c < g.co then popS r c least st (tk g now) (if least≤g.co∧(tk g now).ah < 0 then l ++ [⟨g.fi,⟨(tk g now).at_,g.co,wrap64 (wrap64 (r + 1) - g.fi)⟩⟩] else l) else (g :: st,now,l)
def pushS (c : Int) (now : Gp) : List Gp→List Gp
 | []=>if 0≤c then [⟨c,now.fi,now.at_,now.ah⟩] else []
 | g :: st=>if g.co = c then tk g now :: st else if 0≤c then ⟨c,now.fi,now.at_,now.ah⟩ :: g :: st else g :: st
def lfG (l0 : List S82) (r : Int) : Gp:=match suffix_Index_leaf.f l0 r with
 | some (a,b,c,d)=>⟨a,b,c,d⟩
 | none=>default
def cAt (l0 : List S82) (r : Int) : Int:=if r + 1 < ((rd_T82 l0 0).f2.length : Int) then rd (rd_T82 l0 0).f4 (r + 1) else -1
def runS (l0 : List S82) (least : Int) : Nat→Int→List Gp→List Fd→List Fd
 | 0,_,_,l=>l
 | d + 1,r,st,l=>runS l0 least d (r + 1) (pushS (cAt l0 r) (popS r (cAt l0 r) least st (lfG l0 r) l).2.1 (popS r (cAt l0 r) least st (lfG l0 r) l).1) (popS r (cAt l0 r) least st (lfG l0 r) l).2.2
def keyF (x : Fd) : Int × Int:=(x.fi,x.ag.f1)
def repL (l0 : List S82) (least : Int) : List Fd:=runS l0 least (rd_T82 l0 0).f2.length 0 [] []
structure RpOk (l0 : List S82) (least : Int) : Prop where
 many : (rd_T82 l0 0).f2.length≤16777216
 lcp : (rd_T82 l0 0).f4.length = (rd_T82 l0 0).f2.length
 leaf : ∀ r : Int,0≤r→r < ((rd_T82 l0 0).f2.length : Int)→∃ a b c d,suffix_Index_leaf.f l0 r = some (a,b,c,d)
 keys : ((repL l0 least).map keyF).Nodup
def sortL (l : List Fd) : List Fd:=l.mergeSort (fun x y=>!ltOf cmpF y x)
open Classical in
noncomputable def suffix_Index_Repeats.f (l0 : List S82) (a1 : Int) : Option (List S80 × Int) :=
 if suffix_Index_is.f l0 = some false then some ([],2) else if suffix_Index_is.f l0 = some true∧0 < l0.length then (if a1 < 1 then some ([],1) else if RpOk l0 a1 then some ((sortL (repL l0 a1)).map Fd.ag,0) else none) else none
theorem nodup_inj {l : List Fd} (h : (l.map keyF).Nodup) {x y : Fd} (hx : x ∈ l) (hy : y ∈ l) (e : keyF x = keyF y) : x = y:=by
 induction l with
 | nil=>cases hx
 | cons a l ih =>
  rw [List.map_cons,List.nodup_cons] at h
  rcases List.mem_cons.1 hx with e1 | hx
  ·rcases List.mem_cons.1 hy with e2 | hy
   ·rw [e1,e2]
   ·exact absurd (List.mem_map.2 ⟨y,hy,by rw [← e,e1]⟩) h.1
  ·rcases List.mem_cons.1 hy with e2 | hy
   ·exact absurd (List.mem_map.2 ⟨x,hx,by rw [e,e2]⟩) h.1
   ·exact ih h.2 hx hy
theorem sort_one {l l' : List Fd} (hk : (l.map keyF).Nodup) (hp : l'.Perm l) (hs : l'.Pairwise (fun x y=>ltOf cmpF y x = false)) : l' = sortL l:=by
 have nl : ∀ x y : Fd,ltOf cmpF y x = false↔¬ (y.fi < x.fi∨(y.fi = x.fi∧y.ag.f1 < x.ag.f1)):=fun x y=>by rw [← cmpF_lt,Bool.not_eq_true]
 have tr : ∀ a b c : Fd,(!ltOf cmpF b a) = true→(!ltOf cmpF c b) = true→(!ltOf cmpF c a) = true:=fun a b c h1 h2=>by
  simp only [Bool.not_eq_true'] at *
  exact cmpF_swo.ntrans c b a h2 h1
 have tt : ∀ a b : Fd,((!ltOf cmpF b a) || (!ltOf cmpF a b)) = true:=fun a b=>by
  by_cases h : ltOf cmpF b a = true
  ·have:=(cmpF_lt b a).1 h
   have h2 : ltOf cmpF a b = false:=(nl b a).2 (by omega)
   simp [h2]
  ·simp [h]
 refine List.Perm.eq_of_pairwise (le:=fun x y=>ltOf cmpF y x = false) (fun a b ha hb h1 h2=>?_) hs ?_ (hp.trans (List.mergeSort_perm l _).symm)
 ·have e1:=(nl a b).1 h1
  have e2:=(nl b a).1 h2
  exact nodup_inj hk (hp.mem_iff.1 ha) ((List.mergeSort_perm l _).mem_iff.1 hb) (by unfold keyF; rw [show a.fi = b.fi by omega,show a.ag.f1 = b.ag.f1 by omega])
 ·exact (List.pairwise_mergeSort tr tt l).imp fun h=>by simpa using h
theorem popS_count (r c least : Int) : ∀ (st : List Gp) (now : Gp) (l : List Fd),(popS r c least st now l).1.length + (popS r c least st now l).2.2.length≤st.length + l.length
 | [],_,_=>Nat.le_refl _
 | g :: st,now,l=>by
  unfold popS
  split
  ·refine Nat.le_trans (popS_count r c least st _ _) ?_
   split <;> simp <;> omega
  ·exact Nat.le_refl _
def slLen : Value→Nat
 | .slice _ n _=>n
 | _=>0
theorem nx {i : Int} {n : Nat} (h0 : 0≤i) (h1 : i < (n : Int)) (hn : n≤16777216) : wrap64 (i + 1) = i + 1:=by unfold wrap64; omega
theorem run_step (l0 : List S82) (least : Int) {n : Nat} {i : Int} (h0 : 0≤i) (h1 : i < (n : Int)) (st : List Gp) (l : List Fd) : runS l0 least (n - i.toNat) i st l = runS l0 least (n - (i + 1).toNat) (i + 1) (pushS (cAt l0 i) (popS i (cAt l0 i) least st (lfG l0 i) l).2.1 (popS i (cAt l0 i) least st (lfG l0 i) l).1) (popS i (cAt l0 i) least st (lfG l0 i) l).2.2:=by
 obtain ⟨d,hd⟩ : ∃ d,n - i.toNat = d + 1:=⟨n - i.toNat - 1,by omega⟩
 rw [hd,show n - (i + 1).toNat = d by omega]
 rfl
theorem pushS_count (c : Int) (now : Gp) (st : List Gp) : (pushS c now st).length≤st.length + 1:=by
 unfold pushS
 repeat' split
 all_goals simp
theorem gp_blk {w : World} {b : Nat} {g : Gp} (h : w.heap[b]? = some (.cells #[.int .i64 g.co,.int .i64 g.fi,.int .i64 g.at_,.int .i64 g.ah] 97)) : w.cell? ⟨b,0,none⟩ = some (.int .i64 g.co)∧w.cell? ⟨b,1,none⟩ = some (.int .i64 g.fi)∧w.cell? ⟨b,2,none⟩ = some (.int .i64 g.at_)∧w.cell? ⟨b,3,none⟩ = some (.int .i64 g.ah)∧∀ j,w.frozen? ⟨b,j,none⟩ = false :=
 ⟨by rw [blk_cell h]; rfl,by rw [blk_cell h]; rfl,by rw [blk_cell h]; rfl,by rw [blk_cell h]; rfl,fun j=>blk_frozen h j⟩
theorem Rw.set {α : Type} [Enc4 α] {w : World} {B : Nat} {e : TypeId} {v : Value} {L : List α} (h : Rw w B e v L) {p : Addr} (hne : some p.block ≠ v.ownBlock) (u : Value) : Rw (w.setCell p u) B e v L:=⟨own_setCell h.row hne u⟩
theorem Rw.on {α : Type} [Enc4 α] {w w' : World} {B b : Nat} {e : TypeId} {v : Value} {L : List α} (h : Rw w B e v L) (hO : On b w w') (hne : some b ≠ v.ownBlock) : Rw w' B e v L:=⟨KeepBut.own (g:=b) (row:=none) ⟨hO.size,fun i hi h1 _=>hO.block i hi h1⟩ h.row (fun e=>hne e.symm) (by cases hv : v.ownBlock with
 | none=>exact .inl rfl
 | some k=>exact .inr (by simp))⟩
theorem Rw.grown {α : Type} [Enc4 α] {w w' : World} {B : Nat} {e : TypeId} {v : Value} {L : List α} (h : Rw w B e v L) {row : Option Nat} (hG : w.grownBy w' row) (hne : v.ownBlock = none∨v.ownBlock ≠ row) : Rw w' B e v L:=⟨own_other h.row hG hne⟩
theorem Rw.ne {α β : Type} [Enc4 α] [Enc4 β] {w : World} {B B' : Nat} {e e' : TypeId} {v v' : Value} {L : List α} {M : List β} (h : Rw w B e v L) (h' : Rw w B' e' v' M) (he : e ≠ e') : v.ownBlock = none∨v.ownBlock ≠ v'.ownBlock:=own_type_ne h.row h'.row he
theorem ginfo : (Try.prog.info? 97).map (fun i=>(i.zero,i.size,i.bytes)) = some (some (.agg #[.int .i64 0,.int .i64 0,.int .i64 0,.int .i64 0]),4,32):=by kernel_rfl
theorem ainfo : (Try.prog.info? 80).map (fun i=>(i.zero,i.size,i.bytes)) = some (some (.agg #[.int .i64 0,.int .i64 0,.int .i64 0]),3,24):=by kernel_rfl
theorem finfo : (Try.prog.info? 101).map (fun i=>(i.zero,i.size,i.bytes)) = some (some (.agg #[.int .i64 0,.int .i64 0,.int .i64 0,.int .i64 0]),4,32):=by kernel_rfl
theorem On.cell {b : Nat} {w w' : World} (h : On b w w') {p : Addr} {v : Value} (hne : p.block ≠ b) (hp : w.cell? p = some v) : w'.cell? p = some v:=(World.cell?_of_block (h.block p.block (World.block_lt_of_cell? w p hp) hne)).trans hp
theorem grown_blk {w w' : World} {row : Option Nat} {b : Nat} {o : Obj} (hG : w.grownBy w' row) (hb : w.heap[b]? = some o) (hne : some b ≠ row) : w'.heap[b]? = some o:=(hG.block b (Array.getElem?_eq_some_iff.1 hb).1 hne).trans hb
theorem set4 {w : World} {b : Nat} {t : TypeId} {x0 x1 x2 x3 : Value} (h : w.heap[b]? = some (.cells #[x0,x1,x2,x3] t)) (y0 y1 y2 y3 : Value) : ((((w.setCell ⟨b,0,none⟩ y0).setCell ⟨b,1,none⟩ y1).setCell ⟨b,2,none⟩ y2).setCell ⟨b,3,none⟩ y3).heap[b]? = some (.cells #[y0,y1,y2,y3] t):=blk_set (blk_set (blk_set (blk_set h 0 y0) 1 y1) 2 y2) 3 y3
theorem On.set4 {b : Nat} {w : World} (y0 y1 y2 y3 : Value) : On b w ((((w.setCell ⟨b,0,none⟩ y0).setCell ⟨b,1,none⟩ y1).setCell ⟨b,2,none⟩ y2).setCell ⟨b,3,none⟩ y3):=(((On.set 0 y0).trans (On.set 1 y1)).trans (On.set 2 y2)).trans (On.set 3 y3)
theorem Rw.top {w w' : World} {B n c gr : Nat} {cur : Array Value} {S : List Gp} {g o : Gp} (h : Rw w B 97 (.slice (some ⟨gr,0,none⟩) n c) (S ++ [g])) (hg : w.heap[gr]? = some (.cells cur 97 (0,0)))
  (hk : w'.heap[gr]? = some (.cells ((cur.setIfInBounds (S.length * 4 + 2) (.int .i64 (tk g o).at_)).setIfInBounds (S.length * 4 + 3) (.int .i64 (tk g o).ah)) 97 (0,0))) : Rw w' B 97 (.slice (some ⟨gr,0,none⟩) n c) (S ++ [tk g o]):=by
 obtain ⟨gr',cur',e,hB,hn,hg',q1,q2,q3,q4⟩:=h.at_ (by simp)
 simp only [Option.some.injEq,Addr.mk.injEq,and_true] at e
 subst e
 rw [hg'] at hg
 simp only [Option.some.injEq,Obj.cells.injEq,and_true] at hg
 subst hg
 refine ⟨by rw [kcs_length],.inr ⟨gr,c,_,by rw [hn]; simp,hB,hk,by simpa using q1,q2,by simpa using q3,?_⟩⟩
 rw [Array.toList_setIfInBounds,Array.toList_setIfInBounds,List.take_set,List.take_set]
 have e2 : (S ++ [tk g o]).length * 4 = (S ++ [g]).length * 4:=by simp
 rw [e2,q4,top_set]
 rfl
set_option maxHeartbeats 8000000 in
set_option maxRecDepth 100000 in
theorem suffix_Index_Repeats.calls (A0 : Option Addr) (c0 : Nat) (l0 : List S82) (a1 : Int) (r1 : List S80) (r2 : Int) (w : World) (hr0 : Kd.C k82 w A0 l0.length l0) (hc0 : l0.length≤c0) (h : suffix_Index_Repeats.f l0 a1 = some (r1,r2)) :
  Calls Try.prog 48 #[ptrOf (.slice A0 l0.length c0),.int .i64 a1] w fun e w'=>∃ v0_ : Value,e = .returned (.tuple #[v0_,.int .i64 r2])∧Kd.R k80 80 w' w.heap.size (fun _=>True) v0_ r1∧Below w.heap.size w w':=by
 have HR0:=Aside0.mk hr0
 have HC0:=Aside0.mk hc0
 unfold suffix_Index_Repeats.f at h
 by_cases c1 : suffix_Index_is.f l0 = some false
 ·rw [if_pos c1] at h
  simp only [Option.some.injEq,Prod.mk.injEq] at h
  obtain ⟨rfl,rfl⟩:=h
  have A1:=Aside0.mk c1
  clear c1 hr0 hc0
  go_enter Try.func48,Try.ntmps48
  go_wp2_with (go_at_call 54; refine (suffix_Index_is.calls _ _ l0 false _ HR0.out HC0.out A1.out).mono ?_; rintro e w' ⟨rfl,⟨nd,rfl⟩⟩)
  go_ret2
  exact ⟨_,rfl,Kd.R_nil _ _ _ _ _,pw_below_drewN (Below.refl _ _) _⟩
 rw [if_neg c1] at h
 by_cases c2 : suffix_Index_is.f l0 = some true∧0 < l0.length
 case neg=>rw [if_neg c2] at h; cases h
 rw [if_pos c2] at h
 obtain ⟨c2,hl0⟩:=c2
 have A1:=Aside0.mk c2
 by_cases c3 : a1 < 1
 ·rw [if_pos c3] at h
  simp only [Option.some.injEq,Prod.mk.injEq] at h
  obtain ⟨rfl,rfl⟩:=h
  have c3b : decide (a1 < 1) = true:=decide_eq_true c3
  clear c1 c2 c3 hr0 hc0
  go_enter Try.func48,Try.ntmps48
  go_wp2_with (go_at_call 54; refine (suffix_Index_is.calls _ _ l0 true _ HR0.out HC0.out A1.out).mono ?_; rintro e w' ⟨rfl,⟨nd,rfl⟩⟩)
  go_ret2
  exact ⟨_,rfl,Kd.R_nil _ _ _ _ _,pw_below_drewN (Below.refl _ _) _⟩
 rw [if_neg c3] at h
 by_cases c4 : RpOk l0 a1
 case neg=>rw [if_neg c4] at h; cases h
 rw [if_pos c4] at h
 simp only [Option.some.injEq,Prod.mk.injEq] at h
 obtain ⟨hr1,rfl⟩:=h
 have c3b : decide (a1 < 1) = false:=decide_eq_false c3
 have HOK:=Aside0.mk c4
 have HR1:=Aside0.mk hr1
 clear c1 c2 c3 c4 hr1
 obtain ⟨ad,A1_,k1,A2,k2,A3,k3,A4,k4,rfl,x0,x1,x2,x3,x4,m1,g1,m2,g2,m3,g3,m4,g4⟩:=at_T82 hr0 0 (Int.le_refl _) (by omega)
 have hp : ptrOf (.slice (some ad) l0.length c0) = .pointer (some ad):=by
  show (if l0.length = 0 then Value.pointer none else Value.pointer (some ad)) = _
  rw [if_neg (by omega)]
 have HPT:=Aside0.mk hp
 have e0 : ad.add ((0 : Int).toNat * 5) = ad:=by simp [Addr.add]
 rw [e0] at x0 x1 x2 x3 x4
 have X2:=Aside0.mk x2
 have X4:=Aside0.mk x4
 have G2:=Aside0.mk g2
 have G4:=Aside0.mk g4
 clear x0 x1 x3 m1 g1 m3 g3 g2 g4 hr0 hc0 e0
 rw [hp]
 clear hp
 go_enter Try.func48,Try.ntmps48
 go_wp2_with (fail)
 rw [← HPT.out]
 refine (suffix_Index_is.calls _ _ l0 true _ HR0.out HC0.out A1.out).mono ?_
 rintro e w' ⟨rfl,⟨nd,rfl⟩⟩
 rw [HPT.out]
 have HB1:=Aside0.mk (pw_below_drewN (Below.refl w.heap.size w) nd)
 generalize w.drewN nd = w1 at HB1 ⊢
 obtain ⟨n,hn⟩ : ∃ n,n = (rd_T82 l0 0).f2.length:=⟨_,rfl⟩
 have HN:=Aside0.mk hn
 have HM:=Aside0.mk (show n≤16777216 by rw [hn]; exact HOK.out.many)
 rw [← hn] at X2 G2 m2
 rw [HOK.out.lcp,← hn] at X4 G4 m4
 have x2 : w1.cell? ⟨ad.block,ad.off + 2,none⟩ = some (.slice A2 n k2):=(HB1.out.cell (World.block_lt_of_cell? w _ X2.out)).trans X2.out
 have HF : Aside0 (runS l0 a1 (n - (0 : Int).toNat) 0 [] [] = repL l0 a1):=⟨by rw [HN.out]; rfl⟩
 clear hn
 go_wp2_with (fail)
 clear x2
 go_loopw [6,7,27] (fun v6 v7 v27 wr=>∃ (i : Int) (st : List Gp) (l : List Fd),v27 = .int .i64 i∧0≤i∧i≤(n : Int)∧Aside0 (runS l0 a1 (n - i.toNat) i st l = repL l0 a1)∧Aside0 ((st.length : Int) + (l.length : Int)≤i)∧Aside0 (Rw wr w.heap.size 97 v7 st.reverse)∧Aside0 (Rw wr w.heap.size 101 v6 l)∧Aside0 (Below w.heap.size w wr)) (fun _ _ v27 _=>n - (intOf v27).toNat)
 case atStart=>exact ⟨0,[],[],rfl,by omega,by omega,HF,⟨by simp⟩,⟨Rw.nil _ _ _⟩,⟨Rw.nil _ _ _⟩,HB1⟩
 case round =>
  clear HF HB1
  obtain ⟨i,st,l,rfl,hi0,hi1,HF,HC,HS,HL,HB⟩:=hrel
  by_cases ci : i < (n : Int)
  case neg =>
   have cib : decide (i < (n : Int)) = false:=decide_eq_false ci
   have hl : l = repL l0 a1:=by
    have:=HF.out
    rw [show n - i.toNat = 0 by omega] at this
    exact this
   have HLE:=Aside0.mk hl
   have HLN:=Aside0.mk (show l.length≤16777216 by have:=HC.out; have:=HM.out; omega)
   clear hl ci hi0 hi1
   go_wp2_with (fail)
   generalize hW : wr = W5 at HL HB ⊢
   refine (sort_found HL.out (by have:=HLN.out; omega)).mono ?_
   rintro e w6 ⟨rfl,⟨L',hp,hs,HR6⟩,hG6⟩
   have hlen : L'.length = l.length:=hp.length_eq
   have HLN6:=Aside0.mk (show L'.length≤16777216 by have:=HLN.out; omega)
   have HRR : Aside0 (L'.map Fd.ag = r1):=⟨by rw [sort_one (by rw [HLE.out]; exact HOK.out.keys) hp hs,HLE.out]; exact HR1.out⟩
   have HB6:=Aside0.mk (HB.out.grown hG6 HB.out.size (own_base HL.out.row))
   obtain ⟨m,hm⟩ : ∃ m,m = L'.length:=⟨_,rfl⟩
   have HMM:=Aside0.mk hm
   obtain ⟨A6,c6,h6⟩:=HR6.slice
   rw [← hm] at h6
   subst h6
   have HR6':=Aside0.mk HR6
   clear hlen hp hs hG6 hW HL HB HLN HLE HF HC HS HR1 HR6 hm
   go_wp2_with (first
    | (at_make; refine R_make0 k80 (w0:=w) w.heap.size 80 rfl rfl 73 _ _ rfl (m : Int) rfl rfl Try.underlying73 (.agg #[.int .i64 0,.int .i64 0,.int .i64 0]) 24 ainfo rfl (by decide) (by decide) (⟨0,0,0⟩ : S80) (ok:=fun _=>True) (okp:=fun _=>False) (k80_mkM _ _ _ ⟨0,0,0⟩) (fun _ hk=>hk.elim) trivial (by omega) (by have:=HMM.out; have:=HLN6.out; omega) HB6.out HB6.out.size ?_; intro v7 w7 hr7 hb7 hg7 hat7; go_frame)
    | go_in)
   have HR7:=Aside0.mk hr7
   have HB7:=Aside0.mk hb7
   have HL7:=Aside0.mk (HR6'.out.grown hg7 (by cases A6 with
    | none=>exact .inl rfl
    | some a=>exact .inr (by simp [Value.ownBlock])))
   clear hr7 hb7 hg7 hat7
   go_loopw [12,141] (fun v12 v141 wr=>∃ (t : Int),v141 = .int .i64 t∧0≤t∧t≤(m : Int)∧Aside0 (Kd.R k80 80 wr w.heap.size (fun _=>True) v12 ((L'.take t.toNat).map Fd.ag))∧Aside0 (Rw wr w.heap.size 101 (.slice A6 m c6) L')∧Aside0 (Below w.heap.size w wr)) (fun _ v141 _=>m - (intOf v141).toNat)
   case atStart=>exact ⟨0,rfl,by omega,by omega,HR7,HL7,HB7⟩
   case round =>
    clear HR7 HL7 HB7
    obtain ⟨t,rfl,ht0,ht1,HR8,HL8,HB8⟩:=hrel
    by_cases ct : t < (m : Int)
    ·have ctb : decide (t < (m : Int)) = true:=decide_eq_true ct
     have htl : t.toNat < L'.length:=by have:=HMM.out; omega
     obtain ⟨f,hf⟩ : ∃ f,f = L'.getD t.toNat default:=⟨_,rfl⟩
     obtain ⟨gr,cur,rfl,hgB,hKn,hg,q1,q2,q3,q4⟩:=HL8.out.at_ (by omega)
     clear hKn
     have hc : ∀ k,k < 4→wr.cell? ⟨gr,t.toNat * 4 + k,none⟩ = (Enc4.enc f)[k]?:=fun k hk=>by
      rw [blk_cell hg]
      show cur[t.toNat * 4 + k]? = _
      rw [take_cell q4 (by omega),kcs_get hk htl,hf]
     have z0 : wr.cell? ⟨gr,t.toNat * 4,none⟩ = some (.int .i64 f.fi):=hc 0 (by decide)
     have z1 : wr.cell? ⟨gr,t.toNat * 4 + 1,none⟩ = some (.int .i64 f.ag.f0):=hc 1 (by decide)
     have z2 : wr.cell? ⟨gr,t.toNat * 4 + 2,none⟩ = some (.int .i64 f.ag.f1):=hc 2 (by decide)
     have z3 : wr.cell? ⟨gr,t.toNat * 4 + 3,none⟩ = some (.int .i64 f.ag.f2):=hc 3 (by decide)
     have HTL:=Aside0.mk htl
     have HF:=Aside0.mk hf
     have HE1:=Aside0.mk (nx ht0 ct (by have:=HMM.out; have:=HLN6.out; omega))
     have hcap : t≤(c6 : Int):=by have:=HMM.out; omega
     clear hc hg q1 q2 q3 q4 hf htl
     go_wp2_with (first
      | (at_builtin; refine Kd.R_append k80 (w0:=w) w.heap.size rfl _ _ 73 80 (.agg #[.int .i64 0,.int .i64 0,.int .i64 0]) 24 rfl Try.underlying73 ainfo rfl (by decide) (by decide) u12 ((L'.take t.toNat).map Fd.ag) f.ag [.int .i64 f.ag.f0,.int .i64 f.ag.f1,.int .i64 f.ag.f2] (fun _=>True) (fun _=>False) rfl (by first | (go_simp; done) | (go_simp; rfl)) (k80_mkM _ _ _ f.ag) (fun _ hk=>hk.elim) (fun _ _=>trivial) (Kd.R_alloc HR8.out _) (below_alloc HB8.out _) (Nat.le_trans HB8.out.size (by simp)) (by have:=HMM.out; have:=HLN6.out; simp; omega) ?_; intro v9 w9 hr9 hb9 hg9 hat9; go_frame)
      | go_in)
     have HR9 : Aside0 (Kd.R k80 80 w9 w.heap.size (fun _=>True) v9 ((L'.take (t + 1).toNat).map Fd.ag)):=⟨by
      have e : (L'.take (t + 1).toNat).map Fd.ag = (L'.take t.toNat).map Fd.ag ++ [f.ag]:=by
       have hlt:=HTL.out
       rw [show (t + 1).toNat = t.toNat + 1 by omega,List.take_add_one,List.getElem?_eq_getElem hlt,HF.out,List.map_append]
       congr 1
       simp [List.getD,hlt]
      rw [e]; exact hr9⟩
     have HB9:=Aside0.mk hb9
     have HL9 : Aside0 (Rw w9 w.heap.size 101 (.slice (some ⟨gr,0,none⟩) m c6) L'):=⟨by
      obtain ⟨_,inner,hown,_⟩:=Kd.R_alloc HR8.out (.cells #[.int .i64 f.fi,.int .i64 f.ag.f0,.int .i64 f.ag.f1,.int .i64 f.ag.f2] 101)
      exact (HL8.out.below (below_alloc (Below.refl _ _) _)).grown hg9 (own_type_ne (HL8.out.below (below_alloc (Below.refl _ _) _)).row hown (by decide))⟩
     clear hr9 hb9 hg9 hat9
     go_wp2_with (fail)
     rw [HE1.out]
     refine ⟨⟨t + 1,rfl,by omega,by omega,HR9,HL9,HB9⟩,by simp [intOf]; omega⟩
    ·have ctb : decide (t < (m : Int)) = false:=decide_eq_false ct
     have HRT : Aside0 (Kd.R k80 80 wr w.heap.size (fun _=>True) u12 r1):=⟨by
      have:=HR8.out
      rw [List.take_of_length_le (by have:=HMM.out; omega),HRR.out] at this
      exact this⟩
     clear HR8 ct
     go_wp2_with (fail)
     go_ret2
     exact ⟨_,rfl,HRT.out,HB8.out⟩
  case pos =>
   have cib : decide (i < (n : Int)) = true:=decide_eq_true ci
   obtain ⟨la,lb,lc,ld,hleaf⟩:=HOK.out.leaf i hi0 (by rw [← HN.out]; exact ci)
   have HLF:=Aside0.mk hleaf
   have HLG : Aside0 (lfG l0 i = ⟨la,lb,lc,ld⟩):=⟨by unfold lfG; rw [hleaf]⟩
   clear hleaf
   go_wp2_with (fail)
   rw [← HPT.out]
   refine (suffix_Index_leaf.calls _ _ l0 i la lb lc ld _ (Kd.C_below HR0.out HB.out) HC0.out HLF.out).mono ?_
   rintro e w2 ⟨rfl,hB2⟩
   rw [HPT.out]
   have HB2:=Aside0.mk (below_step HB.out hB2)
   have HS2:=Aside0.mk (HS.out.below hB2)
   have HL2:=Aside0.mk (HL.out.below hB2)
   clear hB2
   have e1:=nx hi0 ci HM.out
   have x2 : ∀ o,(w2.alloc o).cell? ⟨ad.block,ad.off + 2,none⟩ = some (.slice A2 n k2):=fun o=>((below_alloc HB2.out o).cell (World.block_lt_of_cell? w _ X2.out)).trans X2.out
   go_upto_if 40 with (fail)
   go_cut [10] (fun v10 wc=>v10 = .int .i64 (cAt l0 i)∧Aside0 (wc = w2.alloc (.cells #[.int .i64 la,.int .i64 lb,.int .i64 lc,.int .i64 ld] 97)))
   case first=>as_aux_lemma =>
    have HN2:=HN.out
    by_cases cn : i + 1 < (n : Int)
    ·have cnb : decide (i + 1 < (n : Int)) = true:=decide_eq_true cn
     have x4 : (w2.alloc (.cells #[.int .i64 la,.int .i64 lb,.int .i64 lc,.int .i64 ld] 97)).cell? ⟨ad.block,ad.off + 4,none⟩ = some (.slice A4 n k4):=((below_alloc HB2.out _).cell (World.block_lt_of_cell? w _ X4.out)).trans X4.out
     obtain ⟨ad4,rfl,hc4⟩:=(Kd.reads_of_C (d:=(0 : Int)) G4.out).at_ (i + 1) (by omega) cn
     have y4 : (w2.alloc (.cells #[.int .i64 la,.int .i64 lb,.int .i64 lc,.int .i64 ld] 97)).cell? (ad4.add (i + 1).toNat) = some (.int .i64 (cAt l0 i)):=by
      have e : cAt l0 i = rdOf (0 : Int) (rd_T82 l0 0).f4 (i + 1):=by unfold cAt; rw [if_pos (by rw [← HN2]; exact cn)]; rfl
      rw [e]
      exact ((below_alloc HB2.out _).cell (World.block_lt_of_cell? w _ hc4)).trans hc4
     have hj0 : 0≤i + 1:=by omega
     clear hc4 HN2 x2
     rw [cnb]
     go_wp2_with (fail)
     go_meet
     exact ⟨rfl,⟨rfl⟩⟩
    ·have cnb : decide (i + 1 < (n : Int)) = false:=decide_eq_false cn
     have e : cAt l0 i = -1:=by unfold cAt; rw [if_neg (by rw [← HN2]; exact cn)]
     have HE:=Aside0.mk e
     clear HN2 x2 cn e
     rw [cnb]
     go_wp2_with (fail)
     go_meet
     exact ⟨by rw [HE.out],⟨rfl⟩⟩
   case rest=>as_aux_lemma =>
    clear x2 e1
    obtain ⟨rfl,⟨rfl⟩⟩:=hcut
    obtain ⟨nb,hnb⟩ : ∃ b,b = w2.heap.size:=⟨_,rfl⟩
    have HS3:=Aside0.mk (HS2.out.below (below_alloc (Below.refl w2.heap.size w2) (.cells #[.int .i64 la,.int .i64 lb,.int .i64 lc,.int .i64 ld] 97)))
    have HL3:=Aside0.mk (HL2.out.below (below_alloc (Below.refl w2.heap.size w2) (.cells #[.int .i64 la,.int .i64 lb,.int .i64 lc,.int .i64 ld] 97)))
    have HB3:=Aside0.mk (below_alloc HB2.out (.cells #[.int .i64 la,.int .i64 lb,.int .i64 lc,.int .i64 ld] 97))
    have HNB:=Aside0.mk (blk_new w2 (.cells #[.int .i64 la,.int .i64 lb,.int .i64 lc,.int .i64 ld] 97))
    have HNE : Aside0 (some nb ≠ u7.ownBlock):=⟨fun e=>by have:=HS2.out.lt e.symm; omega⟩
    have HNW : Aside0 (w.heap.size≤nb):=⟨by rw [hnb]; exact HB2.out.size⟩
    generalize (w2.alloc (.cells #[.int .i64 la,.int .i64 lb,.int .i64 lc,.int .i64 ld] 97)) = w3 at HS3 HL3 HB3 HNB ⊢
    rw [← hnb] at HNB ⊢
    have HP : Aside0 (popS i (cAt l0 i) a1 st ⟨la,lb,lc,ld⟩ l = popS i (cAt l0 i) a1 st (lfG l0 i) l):=⟨by rw [HLG.out]⟩
    clear hnb
    go_wp2_with (fail)
    go_loopw [6,7] (fun v6 v7 wq=>∃ (st2 : List Gp) (l2 : List Fd) (now : Gp),Aside0 (popS i (cAt l0 i) a1 st2 now l2 = popS i (cAt l0 i) a1 st (lfG l0 i) l)∧Aside0 ((st2.length : Int) + (l2.length : Int)≤i)∧Aside0 (Rw wq w.heap.size 97 v7 st2.reverse)∧Aside0 (Rw wq w.heap.size 101 v6 l2)∧Aside0 (wq.heap[nb]? = some (.cells #[.int .i64 now.co,.int .i64 now.fi,.int .i64 now.at_,.int .i64 now.ah] 97))∧Aside0 (some nb ≠ v7.ownBlock)∧Aside0 (Below w.heap.size w wq)) (fun _ v7 _=>slLen v7)
    case atStart=>exact ⟨st,l,⟨la,lb,lc,ld⟩,HP,HC,HS3,HL3,HNB,HNE,HB3⟩
    case round =>
     clear HP HS3 HL3 HNB HNE HB3 HLG HLF
     obtain ⟨st2,l2,now,HP,HC2,HS3,HL3,HNB,HNE,HB3⟩:=hrel
     cases st2 with
     | nil =>
      obtain ⟨A7,c7,rfl⟩ : ∃ A c,u7 = .slice A 0 c:=by simpa using HS3.out.slice
      have hpp : popS i (cAt l0 i) a1 st (lfG l0 i) l = ([],now,l2):=by rw [← HP.out]; rfl
      have hrun : runS l0 a1 (n - (i + 1).toNat) (i + 1) (pushS (cAt l0 i) now []) l2 = repL l0 a1:=by
       have:=HF.out
       rw [run_step l0 a1 hi0 ci,hpp] at this
       exact this
      have HRUN:=Aside0.mk hrun
      obtain ⟨y0,y1,y2,y3,fz⟩:=gp_blk HNB.out
      have HE1:=Aside0.mk (nx hi0 ci HM.out)
      have HS4 : Rw wr w.heap.size 97 (.slice A7 0 c7) ([] : List Gp):=by simpa using HS3.out
      have HS5:=Aside0.mk HS4
      clear hpp hrun HP HF cib HS4
      by_cases cc : 0≤cAt l0 i
      ·have ccb : decide (0≤cAt l0 i) = true:=decide_eq_true cc
       have hst : pushS (cAt l0 i) now [] = [⟨cAt l0 i,now.fi,now.at_,now.ah⟩]:=by unfold pushS; rw [if_pos cc]
       have HST:=Aside0.mk hst
       generalize hcv : cAt l0 i = cv at ccb hst HST HRUN ⊢
       clear cc hst
       have hn4 : (wr.setCell ⟨nb,0,none⟩ (.int .i64 cv)).heap[nb]? = some (.cells #[.int .i64 cv,.int .i64 now.fi,.int .i64 now.at_,.int .i64 now.ah] 97):=blk_set HNB.out 0 _
       obtain ⟨q0,q1,q2,q3,_⟩:=gp_blk (g:=⟨cv,now.fi,now.at_,now.ah⟩) hn4
       have f0:=fz 0
       have HSA:=Aside0.mk (HS5.out.set (p:=⟨nb,0,none⟩) HNE.out (.int .i64 cv))
       have HLA:=Aside0.mk (HL3.out.set (p:=⟨nb,0,none⟩) (own_ne HL3.out.row HNB.out (by decide)) (.int .i64 cv))
       have HBA : Aside0 (Below w.heap.size w (wr.setCell ⟨nb,0,none⟩ (.int .i64 cv))):=⟨HB3.out.trans ((On.set (b:=nb) 0 (.int .i64 cv)).below HNW.out HB3.out.size)⟩
       clear fz hn4
       go_wp2_with (first
        | (at_builtin; refine Rw.append rfl _ _ 95 97 _ 32 rfl Try.underlying95 ginfo rfl (by decide) (.slice A7 0 c7) ([] : List Gp) ⟨cv,now.fi,now.at_,now.ah⟩ _ (by simp [World.setCell]) rfl rfl HSA.out HBA.out.size (by simp) ?_; intro v8 w8 hr8 hg8 hat8; go_frame)
        | go_in)
       have HR8:=Aside0.mk hr8
       have HL8:=Aside0.mk (HL3.out.set (p:=⟨nb,0,none⟩) (own_ne HL3.out.row HNB.out (by decide)) (.int .i64 cv) |>.grown hg8 (HLA.out.ne HSA.out (by decide)))
       have HB8:=Aside0.mk (HBA.out.grown hg8 HBA.out.size (own_base HSA.out.row))
       clear hr8 hg8 hat8
       go_wp2_with (fail)
       rw [HE1.out]
       refine ⟨⟨i + 1,[⟨cv,now.fi,now.at_,now.ah⟩],l2,rfl,by omega,by omega,⟨by rw [← HST.out]; exact HRUN.out⟩,⟨by have:=HC2.out; simp at this ⊢; omega⟩,⟨by simpa using HR8.out⟩,HL8,HB8⟩,by simp [intOf]; omega⟩
      ·have ccb : decide (0≤cAt l0 i) = false:=decide_eq_false cc
       have hst : pushS (cAt l0 i) now [] = []:=by unfold pushS; rw [if_neg cc]
       have HST:=Aside0.mk hst
       generalize hcv : cAt l0 i = cv at ccb hst HST HRUN ⊢
       clear cc hst
       go_wp2_with (fail)
       rw [HE1.out]
       refine ⟨⟨i + 1,[],l2,rfl,by omega,by omega,⟨by rw [← HST.out]; exact HRUN.out⟩,⟨by have:=HC2.out; simp at this ⊢; omega⟩,⟨by simpa using HS5.out⟩,HL3,HB3⟩,by simp [intOf]; omega⟩
     | cons g st2 =>
      obtain ⟨K,hK⟩ : ∃ K,K = st2.length + 1:=⟨_,rfl⟩
      have HR3 : Rw wr w.heap.size 97 u7 (st2.reverse ++ [g]):=by rw [← List.reverse_cons]; exact HS3.out
      obtain ⟨A7,c7,h7⟩:=HR3.slice
      rw [List.length_append,List.length_reverse,List.length_singleton,← hK] at h7
      subst h7
      obtain ⟨gr,cur,rfl,hgB,hKn,hg,q1,q2,q3,q4⟩:=HR3.at_ (by simp)
      clear hKn
      rw [List.length_append,List.length_reverse,List.length_singleton] at q1 q4
      have hc : ∀ k,k < 4→cur[st2.length * 4 + k]? = (Enc4.enc g)[k]?:=fun k hk=>by
       have:=kcs_last hk st2.reverse g
       rw [List.length_reverse] at this
       rw [take_cell q4 (by omega),this]
      obtain ⟨j,hj⟩ : ∃ j : Int,j = (st2.length : Int):=⟨_,rfl⟩
      have jn : j.toNat = st2.length:=by omega
      have hsmall : (st2.length : Int)≤16777216:=by have:=HC2.out; have:=HM.out; simp at *; omega
      have j0 : 0≤j:=by omega
      have j1 : j < (K : Int):=by omega
      have j2 : j≤(c7 : Int):=by omega
      have e1 : (K : Int) - 1 = j:=by omega
      have e2 : wrap64 j = j:=by unfold wrap64; omega
      have e3 : IntKind.i64.wrap j = j:=by rw [i64_w]; exact e2
      have hK0 : 0 < K:=by omega
      have k0b : decide ((0 : Int) < (K : Int)) = true:=decide_eq_true (by omega)
      have z0 : wr.cell? ⟨gr,j.toNat * 4,none⟩ = some (.int .i64 g.co):=by rw [blk_cell hg,jn]; exact hc 0 (by decide)
      have z1 : wr.cell? ⟨gr,j.toNat * 4 + 1,none⟩ = some (.int .i64 g.fi):=by rw [blk_cell hg,jn]; exact hc 1 (by decide)
      have z2 : wr.cell? ⟨gr,j.toNat * 4 + 2,none⟩ = some (.int .i64 g.at_):=by rw [blk_cell hg,jn]; exact hc 2 (by decide)
      have z3 : wr.cell? ⟨gr,j.toNat * 4 + 3,none⟩ = some (.int .i64 g.ah):=by rw [blk_cell hg,jn]; exact hc 3 (by decide)
      have HG:=Aside0.mk hg
      have HHC:=Aside0.mk hc
      have HK:=Aside0.mk hK
      have HJ:=Aside0.mk jn
      have HRR:=Aside0.mk HR3
      have HQ:=Aside0.mk (And.intro q1 (And.intro q2 (And.intro q3 q4)))
      have HE1:=Aside0.mk (nx hi0 ci HM.out)
      clear hg hc hj hK jn q1 q2 q3 q4 HS3 HR3 cib hsmall
      by_cases cg : cAt l0 i < g.co
      ·have cgb : decide (cAt l0 i < g.co) = true:=decide_eq_true cg
       have HP2:=Aside0.mk ((by rw [popS,if_pos cg] : popS i (cAt l0 i) a1 (g :: st2) now l2 = popS i (cAt l0 i) a1 st2 (tk g now) (if a1≤g.co∧(tk g now).ah < 0 then l2 ++ [⟨g.fi,⟨(tk g now).at_,g.co,wrap64 (wrap64 (i + 1) - g.fi)⟩⟩] else l2)).symm.trans HP.out)
       have y : ∀ o,(wr.alloc o).cell? ⟨nb,0,none⟩ = some (.int .i64 now.co)∧(wr.alloc o).cell? ⟨nb,1,none⟩ = some (.int .i64 now.fi)∧(wr.alloc o).cell? ⟨nb,2,none⟩ = some (.int .i64 now.at_)∧(wr.alloc o).cell? ⟨nb,3,none⟩ = some (.int .i64 now.ah):=fun o=>by
        have h:=gp_blk (blk_alloc HNB.out o)
        exact ⟨h.1,h.2.1,h.2.2.1,h.2.2.2.1⟩
       have y0:=fun o=>(y o).1
       have y1:=fun o=>(y o).2.1
       have y2:=fun o=>(y o).2.2.1
       have y3:=fun o=>(y o).2.2.2
       clear cg y HP
       go_wp2_with (fail)
       clear y0 y1 y2 y3 z0 z1 z2 z3
       refine (take_ok (b:=wr.heap.size) (off:=0) (g:=g) (o:=now) (blk_new wr _) rfl rfl).mono ?_
       rintro e w4 ⟨rfl,hb4,hO4⟩
       obtain ⟨T,hT⟩ : ∃ T,T = tk g now:=⟨_,rfl⟩
       have hTc : T.co = g.co:=by rw [hT]; rfl
       have hTf : T.fi = g.fi:=by rw [hT]; rfl
       have hbl:=(below_alloc (Below.refl wr.heap.size wr) _).trans (hO4.below (Nat.le_refl _) (by simp))
       have HG4 : Aside0 (w4.heap[wr.heap.size]? = some (.cells #[.int .i64 T.co,.int .i64 T.fi,.int .i64 T.at_,.int .i64 T.ah] 97)):=⟨by rw [hTc,hTf,hT]; exact hb4⟩
       have HNB4:=Aside0.mk ((hbl.block nb (blk_lt HNB.out)).trans HNB.out)
       have HS4 : Aside0 (Rw w4 w.heap.size 97 (.slice (some ⟨gr,0,none⟩) j.toNat c7) st2.reverse):=⟨by
        rw [HJ.out]
        have:=(HRR.out.cut).below hbl
        rw [List.length_reverse] at this
        exact this⟩
       have HL4:=Aside0.mk (HL3.out.below hbl)
       have HB4:=Aside0.mk (below_step HB3.out hbl)
       have HP3 : Aside0 (popS i (cAt l0 i) a1 st2 T (if a1≤T.co∧T.ah < 0 then l2 ++ [⟨T.fi,⟨T.at_,T.co,wrap64 (wrap64 (i + 1) - T.fi)⟩⟩] else l2) = popS i (cAt l0 i) a1 st (lfG l0 i) l):=⟨by rw [hTc,hTf,hT]; exact HP2.out⟩
       have HNG : Aside0 (wr.heap.size ≠ nb):=⟨fun e=>by have:=blk_lt HNB.out; omega⟩
       have HL6 : Aside0 (some wr.heap.size ≠ u6.ownBlock):=⟨fun e=>by have:=HL3.out.lt e.symm; omega⟩
       have HC4 : Aside0 ((st2.length : Int) + (l2.length : Int) + 1≤i):=⟨by have:=HC2.out; simp at this; omega⟩
       generalize wr.heap.size = gb at HG4 HNG HL6 ⊢
       clear hb4 hO4 hbl hT hTc hTf HP2 HNB HRR HG HHC HQ HL3 HB3 HC2
       obtain ⟨t0,t1,t2,t3,_⟩:=gp_blk HG4.out
       obtain ⟨n0,n1,n2,n3,nf⟩:=gp_blk HNB4.out
       by_cases d1 : a1≤T.co
       ·have d1b : decide (a1≤T.co) = true:=decide_eq_true d1
        by_cases d2 : T.ah < 0
        ·have d2b : decide (T.ah < 0) = true:=decide_eq_true d2
         have HP4 : Aside0 (popS i (cAt l0 i) a1 st2 T (l2 ++ [⟨T.fi,⟨T.at_,T.co,wrap64 (wrap64 (i + 1) - T.fi)⟩⟩]) = popS i (cAt l0 i) a1 st (lfG l0 i) l):=⟨by have:=HP3.out; rw [if_pos ⟨d1,d2⟩] at this; exact this⟩
         clear d1 d2 HP3
         go_wp2_with (first
          | (at_builtin; refine Rw.append rfl _ _ 94 101 _ 32 rfl Try.underlying94 finfo rfl (by decide) u6 l2 (⟨T.fi,⟨T.at_,T.co,wrap64 (wrap64 (i + 1) - T.fi)⟩⟩ : Fd) _ (by simp) rfl rfl HL4.out HB4.out.size (by have:=HC4.out; have:=HM.out; omega) ?_; intro v8 w8 hr8 hg8 hat8; have hG8:=grown_blk hg8 HG4.out HL6.out; have hN8:=grown_blk hg8 HNB4.out (own_ne HL4.out.row HNB4.out (by decide)); clear t0 t1 t2 t3 n0 n1 n2 n3 nf; obtain ⟨t0,t1,t2,t3,_⟩:=gp_blk hG8; obtain ⟨n0,n1,n2,n3,nf⟩:=gp_blk hN8; go_frame)
          | go_in)
         have hO:=On.set4 (b:=nb) (w:=w8) (.int .i64 T.co) (.int .i64 T.fi) (.int .i64 T.at_) (.int .i64 T.ah)
         have hB8:=HB4.out.grown hg8 HB4.out.size (own_base HL4.out.row)
         refine ⟨⟨st2,_,T,HP4,⟨by have:=HC4.out; simp; omega⟩,⟨(HS4.out.grown hg8 (HS4.out.ne HL4.out (by decide))).on hO HNE.out⟩,⟨hr8.on hO (own_ne hr8.row hN8 (by decide))⟩,⟨set4 hN8 _ _ _ _⟩,HNE,⟨hB8.trans (hO.below HNW.out hB8.size)⟩⟩,by show j.toNat < K; rw [HJ.out,HK.out]; omega⟩
        ·have d2b : decide (T.ah < 0) = false:=decide_eq_false d2
         have HP4 : Aside0 (popS i (cAt l0 i) a1 st2 T l2 = popS i (cAt l0 i) a1 st (lfG l0 i) l):=⟨by have:=HP3.out; rw [if_neg (fun h=>d2 h.2)] at this; exact this⟩
         clear d1 d2 HP3
         go_wp2_with (fail)
         have hO:=On.set4 (b:=nb) (w:=w4) (.int .i64 T.co) (.int .i64 T.fi) (.int .i64 T.at_) (.int .i64 T.ah)
         refine ⟨⟨st2,_,T,HP4,⟨by have:=HC4.out; omega⟩,⟨HS4.out.on hO HNE.out⟩,⟨HL4.out.on hO (own_ne HL4.out.row HNB4.out (by decide))⟩,⟨set4 HNB4.out _ _ _ _⟩,HNE,⟨HB4.out.trans (hO.below HNW.out HB4.out.size)⟩⟩,by show j.toNat < K; rw [HJ.out,HK.out]; omega⟩
       ·have d1b : decide (a1≤T.co) = false:=decide_eq_false d1
        have HP4 : Aside0 (popS i (cAt l0 i) a1 st2 T l2 = popS i (cAt l0 i) a1 st (lfG l0 i) l):=⟨by have:=HP3.out; rw [if_neg (fun h=>d1 h.1)] at this; exact this⟩
        clear d1 HP3
        go_wp2_with (fail)
        have hO:=On.set4 (b:=nb) (w:=w4) (.int .i64 T.co) (.int .i64 T.fi) (.int .i64 T.at_) (.int .i64 T.ah)
        refine ⟨⟨st2,_,T,HP4,⟨by have:=HC4.out; omega⟩,⟨HS4.out.on hO HNE.out⟩,⟨HL4.out.on hO (own_ne HL4.out.row HNB4.out (by decide))⟩,⟨set4 HNB4.out _ _ _ _⟩,HNE,⟨HB4.out.trans (hO.below HNW.out HB4.out.size)⟩⟩,by show j.toNat < K; rw [HJ.out,HK.out]; omega⟩
      ·have cgb : decide (cAt l0 i < g.co) = false:=decide_eq_false cg
       have HP2 : Aside0 (popS i (cAt l0 i) a1 st (lfG l0 i) l = (g :: st2,now,l2)):=⟨HP.out.symm.trans (by rw [popS,if_neg cg])⟩
       have HRUN : Aside0 (runS l0 a1 (n - (i + 1).toNat) (i + 1) (pushS (cAt l0 i) now (g :: st2)) l2 = repL l0 a1):=⟨by
        have:=HF.out
        rw [run_step l0 a1 hi0 ci,HP2.out] at this
        exact this⟩
       have HNQ : Aside0 (nb ≠ gr):=⟨fun e=>HNE.out (by rw [e]; rfl)⟩
       clear cg HP HP2 HF
       obtain ⟨y0,y1,y2,y3,fz⟩:=gp_blk HNB.out
       by_cases ce : g.co = cAt l0 i
       ·have ceb : (g.co == cAt l0 i) = true:=by simp [ce]
        have HST : Aside0 (pushS (cAt l0 i) now (g :: st2) = tk g now :: st2):=⟨by simp only [pushS]; rw [if_pos ce]⟩
        clear ce
        go_wp2_with (fail)
        go_region_held3 (fun w'=>w'.cell? ⟨nb,0,none⟩ = some (.int .i64 now.co)∧w'.cell? ⟨nb,1,none⟩ = some (.int .i64 now.fi)∧w'.cell? ⟨nb,2,none⟩ = some (.int .i64 now.at_)∧w'.cell? ⟨nb,3,none⟩ = some (.int .i64 now.ah))
         (first | exact ⟨y0,y1,y2,y3⟩ | exact ⟨hO4.cell HNQ.out y0,hO4.cell HNQ.out y1,hO4.cell HNQ.out y2,hO4.cell HNQ.out y3⟩)
         (first | (go_at_call 59; refine (take_ok (cs:=cur) (off:=j.toNat * 4) (g:=g) (o:=now) (by first | exact HG.out | exact blk_drew HG.out) (by rw [HJ.out]; exact HHC.out 2 (by decide)) (by rw [HJ.out]; exact HHC.out 3 (by decide))).mono ?_; rintro e w4 ⟨rfl,hb4,hO4⟩))
        have HS4 : Aside0 (Rw w4 w.heap.size 97 (.slice (some ⟨gr,0,none⟩) K c7) (st2.reverse ++ [tk g now])):=⟨HRR.out.top HG.out (by rw [List.length_reverse,← HJ.out]; exact hb4)⟩
        have hO5 : On gr wr w4:=(show On gr wr wr.drew from ⟨rfl,rfl,rfl,Nat.le_refl _,fun _ _ _=>rfl⟩).trans hO4
        have HL4:=Aside0.mk (HL3.out.on hO5 (own_ne HL3.out.row HG.out (by decide)))
        have HB4:=Aside0.mk (HB3.out.trans (hO5.below hgB HB3.out.size))
        clear y0 y1 y2 y3 z0 z1 z2 z3 fz hb4 hO4 hO5
        go_wp2_with (fail)
        rw [HE1.out]
        refine ⟨⟨i + 1,tk g now :: st2,l2,rfl,by omega,by omega,⟨by rw [← HST.out]; exact HRUN.out⟩,⟨by have:=HC2.out; simp at this ⊢; omega⟩,⟨by simpa using HS4.out⟩,HL4,HB4⟩,by simp [intOf]; omega⟩
       ·have ceb : (g.co == cAt l0 i) = false:=by simp [ce]
        by_cases cc : 0≤cAt l0 i
        ·have ccb : decide (0≤cAt l0 i) = true:=decide_eq_true cc
         have HST : Aside0 (pushS (cAt l0 i) now (g :: st2) = ⟨cAt l0 i,now.fi,now.at_,now.ah⟩ :: g :: st2):=⟨by simp only [pushS]; rw [if_neg ce,if_pos cc]⟩
         generalize hcv : cAt l0 i = cv at ccb ceb cgb HST HRUN ⊢
         clear cc ce
         have hn4 : (wr.setCell ⟨nb,0,none⟩ (.int .i64 cv)).heap[nb]? = some (.cells #[.int .i64 cv,.int .i64 now.fi,.int .i64 now.at_,.int .i64 now.ah] 97):=blk_set HNB.out 0 _
         obtain ⟨q0,q1,q2,q3,_⟩:=gp_blk (g:=⟨cv,now.fi,now.at_,now.ah⟩) hn4
         have f0:=fz 0
         have HSA:=Aside0.mk (HRR.out.set (p:=⟨nb,0,none⟩) HNE.out (.int .i64 cv))
         have HLA:=Aside0.mk (HL3.out.set (p:=⟨nb,0,none⟩) (own_ne HL3.out.row HNB.out (by decide)) (.int .i64 cv))
         have HBA : Aside0 (Below w.heap.size w (wr.setCell ⟨nb,0,none⟩ (.int .i64 cv))):=⟨HB3.out.trans ((On.set (b:=nb) 0 (.int .i64 cv)).below HNW.out HB3.out.size)⟩
         clear fz hn4
         go_wp2_with (first
          | (at_builtin; refine Rw.append rfl _ _ 95 97 _ 32 rfl Try.underlying95 ginfo rfl (by decide) (.slice (some ⟨gr,0,none⟩) K c7) (st2.reverse ++ [g]) ⟨cv,now.fi,now.at_,now.ah⟩ _ (by simp [World.setCell]) rfl rfl HSA.out HBA.out.size (by have:=HC2.out; have:=HM.out; simp at *; omega) ?_; intro v8 w8 hr8 hg8 hat8; go_frame)
          | go_in)
         have HR8:=Aside0.mk hr8
         have HL8:=Aside0.mk (HL3.out.set (p:=⟨nb,0,none⟩) (own_ne HL3.out.row HNB.out (by decide)) (.int .i64 cv) |>.grown hg8 (HLA.out.ne HSA.out (by decide)))
         have HB8:=Aside0.mk (HBA.out.grown hg8 HBA.out.size (own_base HSA.out.row))
         clear hr8 hg8 hat8
         go_wp2_with (fail)
         rw [HE1.out]
         refine ⟨⟨i + 1,⟨cv,now.fi,now.at_,now.ah⟩ :: g :: st2,l2,rfl,by omega,by omega,⟨by rw [← HST.out]; exact HRUN.out⟩,⟨by have:=HC2.out; simp at this ⊢; omega⟩,⟨by simpa using HR8.out⟩,HL8,HB8⟩,by simp [intOf]; omega⟩
        ·have ccb : decide (0≤cAt l0 i) = false:=decide_eq_false cc
         have HST : Aside0 (pushS (cAt l0 i) now (g :: st2) = g :: st2):=⟨by simp only [pushS]; rw [if_neg ce,if_neg cc]⟩
         generalize hcv : cAt l0 i = cv at ccb ceb cgb HST HRUN ⊢
         clear cc ce
         go_wp2_with (fail)
         rw [HE1.out]
         refine ⟨⟨i + 1,g :: st2,l2,rfl,by omega,by omega,⟨by rw [← HST.out]; exact HRUN.out⟩,⟨by have:=HC2.out; simp at this ⊢; omega⟩,⟨by simpa using HRR.out⟩,HL3,HB3⟩,by simp [intOf]; omega⟩
end Go.Proofs.Ythcnnfahlhklgaa.X
