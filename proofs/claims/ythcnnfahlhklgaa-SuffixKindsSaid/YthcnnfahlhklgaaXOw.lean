/- By hand: sapperref01.Own of two rows of one's own. -/
import Derived.Test.YthcnnfahlhklgaaXx0
namespace Go.Proofs.Ythcnnfahlhklgaa.X
open Go.RowKit Go.Proofs.YthcnnfahlhklgaaW.PrintWords Go.Proofs.YthcnnfahlhklgaaW.PrintLast Go.Proofs.YthcnnfahlhklgaaW.PrintMore
attribute [local go_sem] max2_int min2_int max_two min_two
set_option linter.unusedVariables false
set_option linter.unusedSimpArgs false
structure Two (w0 w : World) (g gG : Nat) (V G : Nat→Value) (X : Nat→List Int) : Prop where
 hb : Below w0.heap.size w0 w
 ge : w0.heap.size≤g
 geG : w0.heap.size≤gG
 ng : g ≠ gG
 blk : w.heap[g]? = some (.cells #[V 0,V 1] 23 (0,0))
 blkG : w.heap[gG]? = some (.cells #[G 0,G 1] 23 (0,0))
 row : ∀ i,i < 2→(Kd.int .u8).R 5 w w0.heap.size (fun k=>some k = (V i).ownBlock) (V i) (X i)
 ne : ∀ i j,i < 2→j < 2→i ≠ j→∀ k,some k = (V i).ownBlock→some k ≠ (V j).ownBlock

section
variable {w0 w : World} {g gG : Nat} {V G : Nat→Value} {X : Nat→List Int}
theorem Two.put {i gr m c : Nat} (h : Two w0 w g gG V G X) (hi : i < 2) (hv : V i = .slice (some ⟨gr,0,none⟩) m c) (j x : Int) :
  Two w0 (w.setCell ⟨gr,j.toNat,none⟩ (.int .u8 x)) g gG V G (fun q=>if q = i then (X i).set j.toNat x else X q):=by
 have hr:=h.row i hi
 have hob : (V i).ownBlock = some gr:=by rw [hv]; rfl
 have hp : (Kd.int .u8).R 5 (w.setCell ⟨gr,j.toNat,none⟩ (.int .u8 x)) w0.heap.size (fun k=>some k = (V i).ownBlock) (V i) ((X i).set j.toNat x)∧w.grownBy (w.setCell ⟨gr,j.toNat,none⟩ (.int .u8 x)) (some gr):=by
  rw [hv] at hr ⊢
  exact Kd.R_putg hr j x
 refine ⟨below_set h.hb (Kd.R_base hr gr hob),h.ge,h.geG,h.ng,blk_grown h.blk hp.2 (by rw [← hob]; exact Kd.R_ne hr h.blk (by decide)),blk_grown h.blkG hp.2 (by rw [← hob]; exact Kd.R_ne hr h.blkG (by decide)),fun q hq=>?_,h.ne⟩
 by_cases e : q = i
 ·subst e; rw [if_pos rfl]; exact hp.1
 ·rw [if_neg e]; exact Kd.R_grown (h.row q hq) hp.2 (fun k hk=>by rw [← hob]; exact h.ne q i hq hi e k hk)
theorem Two.ext {X' : Nat→List Int} (h : Two w0 w g gG V G X) (e : ∀ i,i < 2→X i = X' i) : Two w0 w g gG V G X':=⟨h.hb,h.ge,h.geG,h.ng,h.blk,h.blkG,fun i hi=>by rw [← e i hi]; exact h.row i hi,h.ne⟩
theorem Two.cell {i : Nat} (h : Two w0 w g gG V G X) (hi : i < 2) : w.cell? ⟨g,i,none⟩ = some (V i):=by
 rw [blk_cell h.blk i]
 rcases (by omega : i = 0∨i = 1) with rfl | rfl <;> rfl
theorem Two.cellG {i : Nat} (h : Two w0 w g gG V G X) (hi : i < 2) : w.cell? ⟨gG,i,none⟩ = some (G i):=by
 rw [blk_cell h.blkG i]
 rcases (by omega : i = 0∨i = 1) with rfl | rfl <;> rfl
end
theorem info_row : (Try.prog.info? 23).map (fun i=>(i.zero,i.size,i.bytes)) = some (some (.slice none 0 0),1,24):=by kernel_rfl
theorem make_two (W : World) : Sem.run Try.prog (Instr.makeSlice 91 (.int .i64 2) (.int .i64 2)) W = .ok (.slice (some ⟨W.heap.size,0,none⟩) 2 2) (W.alloc (.cells #[.slice none 0 0,.slice none 0 0] 23)):=by
 have h:=print_make_of (P:=Try.prog) 91 23 (.slice none 0 0) 24 Try.underlying91 info_row rfl (by decide) 2 (by decide) W
 have e : madeCells #[Value.slice none 0 0] 2 = #[.slice none 0 0,.slice none 0 0]:=by
  apply Array.ext
  ·simp [madeCells]
  ·intro i h1 h2
   have : i = 0∨i = 1:=by simp at h2; omega
   rcases this with rfl | rfl <;> simp [madeCells]
 rw [show ((2 : Nat) : Int) = 2 from rfl,e] at h; exact h
def ownMk (i j : Nat) : Int:=((i : Int) + 7 * (j : Int)) % 256
theorem app_keep {P : Program} (W : World) (base : Nat) (t ty e : TypeId) (i : TypeInfo) (z : Value) (ht : P.underlying t = some (.slice e)) (hi : P.info? e = some i) (hz : i.zero = some z) (hsize : i.size = 1) (hby : i.bytes = 1) (hzs : z.cells.size = 1)
  (v : Value) (n : Nat) (xs : List Value) (hown : W.ownsRow base e 1 v n xs) (a : Addr) (c : Nat) (u : Value) (hnews : ∀ j u',[u][j]? = some u'→W.cell? (a.add j) = some u') (h1 : ∀ u' ∈ [u],u'.oneCell' = true)
  (h63 : n + 1≤maxLen) (hbytes : (n + 1) * 1≤140737488355328) (hbase : base≤W.heap.size) :
  ∃ v' w',(Builtin.append_ #[t,t] ty #[v,.slice (some a) 1 c]).run P W = .ok v' w'∧w'.ownsRow base e 1 v' (n + 1) (xs ++ [u])∧W.grownBy w' v.ownBlock∧(v'.ownBlock = v.ownBlock∨∃ b,v'.ownBlock = some b∧W.heap.size≤b) ∧
   ((∃ A c',v = .slice A n c'∧v' = .slice A (n + 1) c')∨(∃ b,v'.ownBlock = some b∧W.heap.size≤b∧W.grownBy w' none)):=by
 obtain ⟨v',w',hr,ho,hg,_,hat⟩:=run_append_own_at (P:=P) (w:=W) base t ty e i z 1 1 ht hi hz hsize hby hzs (by omega) v n xs hown a 1 c [u] rfl hnews h1 h63 hbytes hbase
 refine ⟨v',w',hr,ho,hg,hat.imp_right (fun h=>⟨_,h,Nat.le_refl _⟩),?_⟩
 rcases hown.2 with ⟨rfl,_⟩ | ⟨g,cap,cur,rfl,hbg,hgc,hnc,hcm,hcs,htake⟩
 ·rcases hat with hat | hat
  ·rcases ho.2 with ⟨_,h0⟩ | ⟨g,cap,cur,rfl,_⟩
   ·omega
   ·simp [Value.ownBlock] at hat
  ·exact .inr ⟨_,hat,Nat.le_refl _,hg⟩
 ·by_cases hroom : n + 1≤cap
  ·have hr2:=run_append_room_cells (P:=P) (w:=W) t ty e i ht hi g 0 n cap a 1 c [u] (by rw [hsize]; rfl) hnews h1 hroom (fun j hj=>by rw [cell_of_row W g _ cur e (0,0) hgc]; simp at hj ⊢; rw [hsize]; omega) (fun j _=>blk_frozen hgc _)
   rw [hr2] at hr
   injection hr with e1 e2
   exact .inl ⟨_,_,rfl,e1.symm⟩
  ·obtain ⟨v2,w2,hr2,ho2,hg2⟩:=run_append_arg_grows (P:=P) (w:=W) t ty e i z 1 1 ht hi hz hsize hby hzs (by omega) ⟨g,0,none⟩ n cap xs hown.1 (fun j u' hj=>by
    rw [add_plain,cell_of_row W g _ cur e (0,0) hgc]
    rw [← htake] at hj
    rw [← hj,← Array.getElem?_toList,List.getElem?_take,if_pos]
    have h9:=(List.getElem?_eq_some_iff.1 hj).1
    rw [List.length_take] at h9; omega) a 1 c [u] rfl hnews (by omega) h63 hbytes
   rw [hr2] at hr
   injection hr with e1 e2
   subst e1 e2
   rcases ho2.2 with ⟨_,h0⟩ | ⟨b,cap,cur,rfl,hb,_⟩
   ·omega
   ·exact .inr ⟨b,rfl,hb,hg2⟩
theorem R_append_keep {P : Program} {ops : Array Oper} {rest : List Oper} {o : Oper} {a : Act} {Q : Exit→Act→World→Prop} {w0 W : World} (base : Nat) (hgd : o.guard = none) (s x : Operand) (t e : TypeId)
  (ho : o.op = .call { callee:=.builtin .append,args:=#[s,x],argTypes:=#[t,t] }) (ht : P.underlying t = some (.slice e)) (hinfo : (P.info? e).map (fun i=>(i.zero,i.size,i.bytes)) = some (some (.int .u8 0),1,1))
  (v : Value) (xs : List Int) (p : Int) (ok : Nat→Prop) (hs : a.eval s = v) (hx : a.eval x = .slice (some ⟨W.heap.size,0,none⟩) 1 1)
  (HO : (Kd.int .u8).R e W base ok v xs) (HB : Below base w0 W) (hbase : base≤W.heap.size) (hl : xs.length + 1≤140737488355328)
  (h : ∀ v1 w1,(Kd.int .u8).R e w1 base (fun _=>True) v1 (xs ++ [p])→Below base w0 w1→W.grownBy w1 v.ownBlock→((∃ A c',v = .slice A xs.length c'∧v1 = .slice A (xs.length + 1) c')∨∃ b,v1.ownBlock = some b∧W.heap.size≤b∧W.grownBy w1 none)→wpList P ops Q rest (a.put o.dst v1) w1) :
  wpList P ops Q (o :: rest) a (W.alloc (.cells #[.int .u8 p] e)):=by
 obtain ⟨i0,hi,hzz⟩:=Option.map_eq_some_iff.1 hinfo
 simp only [Prod.mk.injEq] at hzz
 obtain ⟨hz0,hz1,hz2⟩:=hzz
 obtain ⟨h0,inner,hown,hr⟩:=(Kd.R_mono HO (fun _ _=>trivial) : (Kd.int .u8).R e W base (fun _=>True) v xs)
 obtain ⟨v1,w1,hrun,hown1,hg,hat1,hat⟩:=app_keep (P:=P) (W.alloc (.cells #[.int .u8 p] e)) base t o.type e i0 (.int .u8 0) ht hi hz0 hz1 hz2 rfl v xs.length inner (hown.alloc _) ⟨W.heap.size,0,none⟩ 1 (.int .u8 p) (cell_one_new _ _ _) (by simp; rfl) (by unfold maxLen; omega) (by omega) (by simp; omega)
 have hg2 : W.grownBy w1 v.ownBlock:=World.grownBy.trans (World.grownBy_alloc W _ _) hg
 have hat2 : (∃ A c',v = .slice A xs.length c'∧v1 = .slice A (xs.length + 1) c')∨∃ b,v1.ownBlock = some b∧W.heap.size≤b∧W.grownBy w1 none:=by
  rcases hat with hat | ⟨b,h2,h3,h4⟩
  ·exact .inl hat
  ·exact .inr ⟨b,h2,by simp at h3; omega,World.grownBy.trans (World.grownBy_alloc W _ _) h4⟩
 have hR : (Kd.int .u8).R e w1 base (fun _=>True) v1 (xs ++ [p]):=Kd.R_appended (d:=Kd.int .u8) (okp:=fun _=>False) h0 hr (show (Kd.int .u8).M W base (fun _=>False) p [.int .u8 p] from rfl) (fun _ hk=>hk.elim) (fun _ _=>trivial) hown1 hg2 (by
  rcases hat1 with hat | ⟨b,h2,h3⟩
  ·exact .inl hat
  ·exact .inr ⟨b,h2,by simp at h3; omega⟩)
 refine wpList_plain hgd fun K hK=>?_
 unfold Oper.wp execOp
 simp only [ho,resolve,invoke,builtin,Sem.run_bind,Sem.run_pure,Result.andThen_ok,List.map_toArray,List.map_cons,List.map_nil,hs,hx,hrun]
 exact hK _ _ (h v1 w1 hR (HB.grown hg2 hbase (own_base hown)) hg2 hat2)
structure Grow (w0 w : World) (g gG : Nat) (V G : Nat→Value) (Z Y : Nat→List Int) (q : Nat) : Prop where
 hb : Below w0.heap.size w0 w
 geG : w0.heap.size≤gG
 ng : g ≠ gG
 blk : w.heap[g]? = some (.cells #[V 0,V 1] 23 (0,0))
 blkG : w.heap[gG]? = some (.cells #[G 0,G 1] 23 (0,0))
 old : ∀ i,q≤i→i < 2→(Kd.int .u8).R 5 w w0.heap.size (fun k=>some k = (V i).ownBlock) (V i) (Z i)
 new : ∀ i,i < q→(Kd.int .u8).R 5 w w0.heap.size (fun k=>some k = (G i).ownBlock) (G i) (Z i ++ Y i)
 dich : ∀ i,i < q→(∃ A c,V i = .slice A (Z i).length c∧G i = .slice A ((Z i).length + (Y i).length) c)∨((Kd.int .u8).R 5 w w0.heap.size (fun k=>some k = (V i).ownBlock) (V i) (Z i)∧∀ k,some k = (V i).ownBlock→some k ≠ (G i).ownBlock)
 vv : ∀ i j,i < 2→j < 2→i ≠ j→∀ k,some k = (V i).ownBlock→some k ≠ (V j).ownBlock
 vg : ∀ i j,i < 2→j < q→i ≠ j→∀ k,some k = (V i).ownBlock→some k ≠ (G j).ownBlock
 gg : ∀ i j,i < q→j < q→i ≠ j→∀ k,some k = (G i).ownBlock→some k ≠ (G j).ownBlock
section
variable {w0 w : World} {g gG : Nat} {V G : Nat→Value} {Z Y : Nat→List Int} {q : Nat}
theorem ob_slice (A : Option Addr) (n c n' c' : Nat) : (Value.slice A n c).ownBlock = (Value.slice A n' c').ownBlock:=by cases A <;> rfl
theorem Two.grow {Y : Nat→List Int} (h : Two w0 w g gG V G Z) : Grow w0 w g gG V G Z Y 0:=⟨h.hb,h.geG,h.ng,h.blk,h.blkG,fun i _ hi=>h.row i hi,fun i hi=>absurd hi (by omega),fun i hi=>absurd hi (by omega),h.ne,fun i j _ hj=>absurd hj (by omega),fun i j hi=>absurd hi (by omega)⟩
theorem Grow.vlt (h : Grow w0 w g gG V G Z Y q) {j k : Nat} (hj : j < 2) (hk : some k = (V j).ownBlock) : k < w.heap.size:=by
 rcases Nat.lt_or_ge j q with z | z
 ·rcases h.dich j z with ⟨A,c,e1,e2⟩ | ⟨h1,_⟩
  ·refine Kd.R_lt (h.new j z) k ?_
   rw [hk,e1,e2]; exact ob_slice _ _ _ _ _
  ·exact Kd.R_lt h1 k hk.symm
 ·exact Kd.R_lt (h.old j z hj) k hk.symm
theorem Grow.cell {i : Nat} (h : Grow w0 w g gG V G Z Y q) (hi : i < 2) : w.cell? ⟨g,i,none⟩ = some (V i):=by
 rw [blk_cell h.blk i]
 rcases (by omega : i = 0∨i = 1) with rfl | rfl <;> rfl
theorem Grow.cellG {i : Nat} (h : Grow w0 w g gG V G Z Y q) (hi : i < 2) : w.cell? ⟨gG,i,none⟩ = some (G i):=by
 rw [blk_cell h.blkG i]
 rcases (by omega : i = 0∨i = 1) with rfl | rfl <;> rfl
theorem Grow.readG {i : Nat} (h : Grow w0 w g gG V G Z Y q) (hi : i < q) : ∃ A c,G i = .slice A ((Z i).length + (Y i).length) c∧(Kd.int .u8).C w A ((Z i).length + (Y i).length) (Z i ++ Y i):=by
 obtain ⟨A,c,e⟩:=Kd.R_slice (h.new i hi)
 have h1:=h.new i hi
 rw [e] at h1
 rw [← List.length_append]
 exact ⟨A,c,e,(Kd.R_reads' h1).2.2⟩
theorem Grow.readV {i : Nat} (h : Grow w0 w g gG V G Z Y q) (hi : i < q) : ∃ A c,V i = .slice A (Z i).length c∧(Kd.int .u8).C w A (Z i).length (Z i):=by
 rcases h.dich i hi with ⟨A,c,e1,e2⟩ | ⟨h1,_⟩
 ·have h1:=h.new i hi
  rw [e2] at h1
  have h2:=(Kd.R_reads' h1).2.2
  have h3:=Kd.C_take h2 (m:=(Z i).length) (by simp)
  rw [List.take_left' rfl] at h3
  exact ⟨A,c,e1,h3⟩
 ·obtain ⟨A,c,e⟩:=Kd.R_slice h1
  rw [e] at h1
  exact ⟨A,c,e,(Kd.R_reads' h1).2.2⟩
theorem Grow.start (h : Grow w0 w g gG V G Z Y q) (hq : q < 2) : Grow w0 (w.setCell ⟨gG,q,none⟩ (V q)) g gG V (fun j=>if j = q then V q else G j) Z (fun j=>if j = q then [] else Y j) (q + 1):=by
 have st : ∀ {v : Value} {xs : List Int} {ok : Nat→Prop},(Kd.int .u8).R 5 w w0.heap.size ok v xs→(Kd.int .u8).R 5 (w.setCell ⟨gG,q,none⟩ (V q)) w0.heap.size ok v xs:=fun hr=>Kd.R_set hr h.blkG (by decide) q (V q)
 refine ⟨below_set h.hb h.geG,h.geG,h.ng,(Below.heap_setCell w ⟨gG,q,none⟩ (V q) g h.ng).trans h.blk,blk_put h.blkG q (V q) ?_,fun i h1 h2=>st (h.old i (by omega) h2),fun i hi=>?_,fun i hi=>?_,h.vv,fun i j hi hj e k hk=>?_,fun i j hi hj e k hk=>?_⟩
 ·rcases (by omega : q = 0∨q = 1) with rfl | rfl <;> simp
 ·by_cases e : i = q
  ·subst e; (try dsimp only); rw [if_pos rfl,if_pos rfl,List.append_nil]; exact st (h.old i (Nat.le_refl _) hq)
  ·(try dsimp only); rw [if_neg e,if_neg e]; exact st (h.new i (by omega))
 ·by_cases e : i = q
  ·subst e
   (try dsimp only); rw [if_pos rfl,if_pos rfl]
   obtain ⟨A,c,e1⟩:=Kd.R_slice (h.old i (Nat.le_refl _) hq)
   exact .inl ⟨A,c,e1,e1⟩
  ·(try dsimp only); rw [if_neg e,if_neg e]
   rcases h.dich i (by omega) with h1 | ⟨h1,h2⟩
   ·exact .inl h1
   ·exact .inr ⟨st h1,h2⟩
 ·(try dsimp only)
  by_cases e2 : j = q
  ·rw [if_pos e2]; exact h.vv i q hi hq (by omega) k hk
  ·rw [if_neg e2]; exact h.vg i j hi (by omega) e k hk
 ·(try dsimp only at hk ⊢)
  by_cases e1 : i = q
  ·rw [if_pos e1] at hk
   rw [if_neg (by omega)]
   exact h.vg q j hq (by omega) (by omega) k hk
  ·rw [if_neg e1] at hk
   by_cases e2 : j = q
   ·rw [if_pos e2]
    intro hk2
    exact h.vg q i hq (by omega) (by omega) k hk2 hk
   ·rw [if_neg e2]; exact h.gg i j (by omega) (by omega) e k hk
theorem Grow.app {i : Nat} {v1 : Value} {w1 : World} {x : Int} (h : Grow w0 w g gG V G Z Y q) (hi : i < q) (hq : q≤2) (hr : (Kd.int .u8).R 5 w1 w0.heap.size (fun _=>True) v1 (Z i ++ Y i ++ [x])) (hb : Below w0.heap.size w0 w1) (hg : w.grownBy w1 (G i).ownBlock)
  (hat : (∃ A c',G i = .slice A (Z i ++ Y i).length c'∧v1 = .slice A ((Z i ++ Y i).length + 1) c')∨∃ b,v1.ownBlock = some b∧w.heap.size≤b∧w.grownBy w1 none) :
  Grow w0 (w1.setCell ⟨gG,i,none⟩ v1) g gG V (fun j=>if j = i then v1 else G j) Z (fun j=>if j = i then Y i ++ [x] else Y j) q:=by
 have bG:=blk_grown h.blkG hg (Kd.R_ne (h.new i hi) h.blkG (by decide))
 have st : ∀ {v : Value} {xs : List Int} {ok : Nat→Prop},(Kd.int .u8).R 5 w1 w0.heap.size ok v xs→(Kd.int .u8).R 5 (w1.setCell ⟨gG,i,none⟩ v1) w0.heap.size ok v xs:=fun hr=>Kd.R_set hr bG (by decide) i v1
 have far : ∀ k,k < w.heap.size→some k ≠ (G i).ownBlock→some k ≠ v1.ownBlock:=fun k hk hne=>by
  rcases hat with ⟨A,c',e1,e2⟩ | ⟨b,e1,e2,_⟩
  ·rw [e1] at hne; rw [e2]; rwa [ob_slice A _ c' (Z i ++ Y i).length c']
  ·rw [e1]; intro e; injection e with e; omega
 refine ⟨below_set hb h.geG,h.geG,h.ng,(Below.heap_setCell w1 ⟨gG,i,none⟩ v1 g h.ng).trans (blk_grown h.blk hg (Kd.R_ne (h.new i hi) h.blk (by decide))),blk_put bG i v1 ?_,fun j h1 h2=>st (Kd.R_grown (h.old j h1 h2) hg (fun k hk=>h.vg j i h2 hi (by omega) k hk)),fun j hj=>?_,fun j hj=>?_,h.vv,fun j j' hj hj' e k hk=>?_,fun j j' hj hj' e k hk=>?_⟩
 ·rcases (by omega : i = 0∨i = 1) with rfl | rfl <;> simp
 ·by_cases e : j = i
  ·subst e; (try dsimp only); rw [if_pos rfl,if_pos rfl,← List.append_assoc]; exact st (Kd.R_tight rfl hr)
  ·(try dsimp only); rw [if_neg e,if_neg e]; exact st (Kd.R_grown (h.new j hj) hg (fun k hk=>h.gg j i hj hi e k hk))
 ·by_cases e : j = i
  ·subst e
   (try dsimp only); rw [if_pos rfl,if_pos rfl]
   rcases h.dich j hj with ⟨A,c,e1,e2⟩ | ⟨h1,h2⟩
   ·rcases hat with ⟨A',c',e3,e4⟩ | ⟨b,e3,e4,hg0⟩
    ·rw [e2] at e3
     injection e3 with x1 x2 x3
     subst x1 x3
     exact .inl ⟨A,c,e1,by rw [e4]; simp only [List.length_append,List.length_singleton]; congr 1⟩
    ·have hn:=h.new j hj
     rw [e2] at hn
     have h3:=Kd.R_take hn (m:=(Z j).length) (by simp)
     rw [List.take_left' rfl,← e1] at h3
     refine .inr ⟨st (Kd.R_grown (Kd.R_tight rfl h3) hg0 (fun k _=>by simp)),fun k hk=>?_⟩
     rw [e3]; intro e5; injection e5 with e5
     have:=h.vlt (by omega) hk
     omega
   ·exact .inr ⟨st (Kd.R_grown h1 hg h2),fun k hk=>far k (h.vlt (by omega) hk) (h2 k hk)⟩
  ·(try dsimp only); rw [if_neg e,if_neg e]
   rcases h.dich j hj with h1 | ⟨h1,h2⟩
   ·exact .inl h1
   ·exact .inr ⟨st (Kd.R_grown h1 hg (fun k hk=>h.vg j i (by omega) hi e k hk)),h2⟩
 ·(try dsimp only)
  by_cases e2 : j' = i
  ·rw [if_pos e2]; exact far k (h.vlt hj hk) (h.vg j i hj hi (by omega) k hk)
  ·rw [if_neg e2]; exact h.vg j j' hj hj' e k hk
 ·(try dsimp only at hk ⊢)
  by_cases e1 : j = i
  ·rw [if_pos e1] at hk
   rw [if_neg (by omega)]
   intro hk2
   exact far k (Kd.R_lt (h.new j' hj') k hk2.symm) (h.gg j' i hj' hi (by omega) k hk2) hk
  ·rw [if_neg e1] at hk
   by_cases e2 : j' = i
   ·rw [if_pos e2]; exact far k (Kd.R_lt (h.new j hj) k hk.symm) (h.gg j i hj hi e1 k hk)
   ·rw [if_neg e2]; exact h.gg j j' hj hj' e k hk
end
def ownEnd (i j : Nat) : Int:=(i : Int) + 131 + 3 * (j : Int)
def ends (i m : Nat) : List Int:=(List.range m).map (ownEnd i)
theorem ends_succ (i m : Nat) : ends i (m + 1) = ends i m ++ [ownEnd i m]:=by unfold ends; rw [List.range_succ,List.map_append]; rfl
set_option maxHeartbeats 16000000 in
set_option maxRecDepth 100000 in
theorem own_two {w0 w : World} {g c : Nat} {V : Nat→Value} {X : Nat→List Int} (hb : Below w0.heap.size w0 w) (ge : w0.heap.size≤g) (blk : w.heap[g]? = some (.cells #[V 0,V 1] 23 (0,0)))
  (row : ∀ i,i < 2→(Kd.int .u8).R 5 w w0.heap.size (fun k=>some k = (V i).ownBlock) (V i) (X i)) (ne : ∀ i j,i < 2→j < 2→i ≠ j→∀ k,some k = (V i).ownBlock→some k ≠ (V j).ownBlock) (hx : ∀ i,i < 2→(X i).length≤1073741824) :
  Calls Try.prog 36 #[.slice (some ⟨g,0,none⟩) 2 c] w fun e w'=>e = .returned (.bool true)∧Below w0.heap.size w0 w':=by
 have HT:=Aside0.mk (show Two w0 (w.alloc (.cells #[.slice none 0 0,.slice none 0 0] 23)) g w.heap.size V (fun _=>.slice none 0 0) X from
  ⟨below_alloc hb _,ge,hb.size,by have:=blk_lt blk; omega,blk_alloc blk _,by show (w.heap.push _)[w.heap.size]? = _; simp,fun i hi=>Kd.R_alloc (row i hi) _,ne⟩)
 have HX:=Aside0.mk hx
 clear hb ge blk row ne hx
 go_enter Try.func36,Try.ntmps36
 go_wp2_with (fail)
 rw [make_two]
 go_wp2_with (fail)
 generalize w.alloc (.cells #[.slice none 0 0,.slice none 0 0] 23) = w1 at *
 generalize w.heap.size = gG at *
 have HL:=Aside0.mk (show ∀ i,i < 2→(X i).length = (X i).length from fun _ _=>rfl)
 go_loopg [19] 3 (fun kq v19 w'=>∃ (q : Nat) (Y : Nat→List Int),v19 = .int .i64 (q : Int)∧Aside0 (q + kq = 3∧q≤2)∧Aside0 (Two w0 w' g gG V (fun _=>.slice none 0 0) Y)∧Aside0 (∀ i,i < 2→(Y i).length = (X i).length)∧Aside0 (∀ i j,i < q→j < (X i).length→(Y i).getD j 0 = ownMk i j))
 case atStart=>exact ⟨0,X,rfl,⟨by omega⟩,HT,HL,⟨fun i j hi=>absurd hi (by omega)⟩⟩
 case round =>
  clear HT HL
  obtain ⟨q,Y,rfl,HK,HT,HL,HM⟩:=hrel
  cases gk with
  | zero=>exact absurd HK.out (by omega)
  | succ k1 =>
   by_cases c1 : q < 2
   ·have c1b : decide ((q : Int) < 2) = true:=decide_eq_true (by omega)
    have c1c : ((q : Int) < 2) = True:=eq_true (by omega)
    have c2b : (0≤(q : Int)) = True:=eq_true (by omega)
    obtain ⟨Aq,cq,eq⟩:=Kd.R_slice (HT.out.row q c1)
    have k1_:=HT.out.cell c1
    have hlen:=HL.out q c1
    have hlX:=HX.out q c1
    rw [hlen] at eq
    rw [eq] at k1_
    go_wp2_with (fail)
    have HL2:=HL
    have HM2:=Aside0.mk (show ∀ j,j < 0→(Y q).getD j 0 = ownMk q j from fun j hj=>absurd hj (by omega))
    go_loopg [26] ((X q).length + 1) (fun kq v26 w'=>∃ (m : Nat) (Z : Nat→List Int),v26 = .int .i64 (m : Int)∧Aside0 (m + kq = (X q).length + 1∧m≤(X q).length)∧Aside0 (Two w0 w' g gG V (fun _=>.slice none 0 0) Z)∧Aside0 (∀ i,i < 2→(Z i).length = (X i).length)∧Aside0 (∀ i j,i < q→j < (X i).length→(Z i).getD j 0 = ownMk i j)∧Aside0 (∀ j,j < m→(Z q).getD j 0 = ownMk q j))
    case atStart=>exact ⟨0,Y,rfl,⟨by omega⟩,HT,HL,HM,HM2⟩
    case round =>
     clear HT HL HL2 HM HM2 k1_ hlen
     obtain ⟨m,Z,rfl,HK2,HT,HL,HM,HM2⟩:=hrel
     cases gk with
     | zero=>exact absurd HK2.out (by omega)
     | succ k2 =>
      have hlz:=HL.out q c1
      by_cases c3 : m < (X q).length
      ·have c3b : decide ((m : Int) < ((X q).length : Int)) = true:=decide_eq_true (by omega)
       have c3c : ((m : Int) < ((X q).length : Int)) = True:=eq_true (by omega)
       have c4b : (0≤(m : Int)) = True:=eq_true (by omega)
       obtain ⟨gr,cr,er,_,_,_⟩:=Kd.R_form (HT.out.row q c1) (by omega)
       have er2:=eq.symm.trans er
       injection er2 with e1 e2 e3
       subst e1
       have hR:=HT.out.row q c1
       rw [eq] at hR
       obtain ⟨hx,hf⟩:=Kd.R_celln 0 hR (m : Int) (by omega) (by omega)
       simp only [Int.toNat_natCast] at hx hf
       have HP:=Aside0.mk (HT.out.put c1 eq (m : Int) (((q : Int) + 7 * (m : Int)) % 256))
       clear hR e2 e3 er
       go_wp2_with (fail)
       go_roundg k2
       case measure=>have:=HK2.out; omega
       case rel =>
        refine ⟨m + 1,fun p=>if p = q then (Z q).set m (((q : Int) + 7 * (m : Int)) % 256) else Z p,by simp,⟨by have:=HK2.out; omega⟩,?_,?_,?_,?_⟩
        ·have h_:=HP.out; simp only [Int.toNat_natCast] at h_; exact ⟨h_⟩
        ·refine ⟨fun i hi=>?_⟩
         dsimp only
         by_cases e : i = q
         ·rw [if_pos e,List.length_set,e]; exact hlz
         ·rw [if_neg e]; exact HL.out i hi
        ·refine ⟨fun i j hi hj=>?_⟩
         dsimp only
         rw [if_neg (by omega)]; exact HM.out i j hi hj
        ·refine ⟨fun j hj=>?_⟩
         dsimp only
         rw [if_pos rfl,List.getD_eq_getElem?_getD,List.getElem?_set]
         by_cases e : m = j
         ·rw [if_pos e,if_pos (by omega),e]; rfl
         ·rw [if_neg e,← List.getD_eq_getElem?_getD]; exact HM2.out j (by omega)
      ·have c3b : decide ((m : Int) < ((X q).length : Int)) = false:=decide_eq_false (by omega)
       go_wp2_with (fail)
       go_roundg k1
       case measure=>have:=HK.out; omega
       case rel =>
        have hm : m = (X q).length:=by have:=HK2.out; omega
        subst hm
        refine ⟨q + 1,Z,by simp,⟨by have:=HK.out; omega⟩,HT,HL,⟨fun i j hi hj=>?_⟩⟩
        rcases Nat.lt_or_ge i q with z | z
        ·exact HM.out i j z hj
        ·obtain rfl : i = q:=by omega
         exact HM2.out j hj
   ·have hq : q = 2:=by have:=HK.out; omega
    subst hq
    have c1b : decide (((2 : Nat) : Int) < 2) = false:=by decide
    clear c1
    go_wp2_with (fail)
    have HG:=Aside0.mk (HT.out.grow (Y:=fun _=>[]))
    have HE:=Aside0.mk (show ∀ i,i < 0→(fun _=>([] : List Int)) i = ends i 24 from fun i hi=>absurd hi (by omega))
    have HYX:=Aside0.mk (show ∀ i,i < 2→(Y i).length≤1073741824 from fun i hi=>by rw [HL.out i hi]; exact HX.out i hi)
    go_loopg [41] 3 (fun kq v41 w'=>∃ (p : Nat) (G : Nat→Value) (B : Nat→List Int),v41 = .int .i64 (p : Int)∧Aside0 (p + kq = 3∧p≤2)∧Aside0 (Grow w0 w' g gG V G Y B p)∧Aside0 (∀ i,i < p→B i = ends i 24))
    case atStart=>exact ⟨0,_,_,rfl,⟨by omega⟩,HG,HE⟩
    case round =>
     clear HT HG HE HK
     obtain ⟨p,G,B,rfl,HK,HG,HE⟩:=hrel
     cases gk with
     | zero=>exact absurd HK.out (by omega)
     | succ k2 =>
      by_cases c1 : p < 2
      ·have c1b : decide ((p : Int) < 2) = true:=decide_eq_true (by omega)
       have c1c : ((p : Int) < 2) = True:=eq_true (by omega)
       have c2b : (0≤(p : Int)) = True:=eq_true (by omega)
       obtain ⟨Ap,cp,ep⟩:=Kd.R_slice (HG.out.old p (Nat.le_refl _) c1)
       have k1_:=HG.out.cell c1
       rw [ep] at k1_
       have k2_:=HG.out.cellG c1
       have k3_:=blk_frozen HG.out.blkG p
       have HG2:=Aside0.mk (HG.out.start c1)
       have ew : wr.setCell ⟨gG,p,none⟩ (V p) = wr.setCell ⟨gG,p,none⟩ (.slice Ap (Y p).length cp):=by rw [ep]
       rw [ew] at HG2
       clear ew
       go_wp2_with (fail)
       have HB:=Aside0.mk (show (fun j=>if j = p then ([] : List Int) else B j) p = ends p 0 from if_pos rfl)
       have HE2:=Aside0.mk (show ∀ i,i < p→(fun j=>if j = p then ([] : List Int) else B j) i = ends i 24 from fun i hi=>(if_neg (by omega)).trans (HE.out i hi))
       generalize wr.setCell ⟨gG,p,none⟩ (.slice Ap (Y p).length cp) = w2 at *
       generalize (fun j=>if j = p then V p else G j) = G2 at *
       generalize (fun j=>if j = p then ([] : List Int) else B j) = B2 at *
       clear HG HE k1_ k2_ k3_
       go_loopg [9] 25 (fun kq v9 w'=>∃ (m : Nat) (G : Nat→Value) (B : Nat→List Int),v9 = .int .i64 (m : Int)∧Aside0 (m + kq = 25∧m≤24)∧Aside0 (Grow w0 w' g gG V G Y B (p + 1))∧Aside0 (B p = ends p m)∧Aside0 (∀ i,i < p→B i = ends i 24))
       case atStart=>exact ⟨0,_,_,rfl,⟨by omega⟩,HG2,HB,HE2⟩
       case round =>
        clear HG2 HB HE2
        obtain ⟨m,G,B,rfl,HK3,HG,HB,HE⟩:=hrel
        cases gk with
        | zero=>exact absurd HK3.out (by omega)
        | succ k3 =>
         by_cases c3 : m < 24
         ·have c3b : decide ((m : Int) < 24) = true:=decide_eq_true (by omega)
          have hn:=HG.out.new p (by omega)
          obtain ⟨An,cn_,en⟩:=Kd.R_slice hn
          have hbl : (B p).length = m:=by rw [HB.out]; simp [ends]
          rw [List.length_append,hbl] at en
          have k2_:=HG.out.cellG c1
          rw [en] at k2_
          have hyl:=HYX.out p c1
          have hpr : (Y p ++ B p).length + 1≤140737488355328:=by rw [List.length_append,hbl]; omega
          go_wp2_with (first | ((with_reducible refine gate_builtin (b:=.append) (xs:=#[.tmp 59,.tmp 66]) rfl ?_); (try (refine gate_guard (by rfl) ?_; dsimp only)); at_builtin; refine R_append_keep (w0:=w0) w0.heap.size rfl (.tmp 59) (.tmp 66) 23 5 rfl Try.underlying23 info5 (.slice An ((Y p).length + m) cn_) (Y p ++ B p) ((p : Int) + 131 + 3 * (m : Int)) (fun k=>some k = (G p).ownBlock) rfl rfl (by rw [← en]; exact hn) HG.out.hb HG.out.hb.size hpr ?_; intro v1 w3 hr hb hg hat; obtain ⟨A1,c1_,e1⟩:=Kd.R_slice hr; rw [show (Y p ++ B p ++ [(p : Int) + 131 + 3 * (m : Int)]).length = (Y p).length + (m + 1) by simp only [List.length_append,List.length_singleton,hbl]; omega] at e1; subst e1; rw [← en] at hg hat; have bG:=blk_grown HG.out.blkG hg (Kd.R_ne hn HG.out.blkG (by decide)); have zc : w3.cell? ⟨gG,p,none⟩ = some (G p):=(by rw [blk_cell bG p]; rcases (by omega : p = 0∨p = 1) with rfl | rfl <;> rfl); have zf:=blk_frozen bG p; have HA:=Aside0.mk (HG.out.app (by omega) (by omega) hr hb hg hat); clear HG hb hg hat bG hr))
          go_roundg k3
          case measure=>have:=HK3.out; omega
          case rel =>
           refine ⟨m + 1,_,_,by simp,⟨by have:=HK3.out; omega⟩,HA,⟨?_⟩,⟨fun i hi=>?_⟩⟩
           ·rw [if_pos rfl,HB.out,ends_succ]; rfl
           ·rw [if_neg (by omega)]; exact HE.out i hi
         ·have c3b : decide ((m : Int) < 24) = false:=decide_eq_false (by omega)
          go_wp2_with (fail)
          go_roundg k2
          case measure=>have:=HK.out; omega
          case rel =>
           have hm : m = 24:=by have:=HK3.out; omega
           subst hm
           refine ⟨p + 1,_,_,by simp,⟨by have:=HK.out; omega⟩,HG,⟨fun i hi=>?_⟩⟩
           rcases Nat.lt_or_ge i p with z | z
           ·exact HE.out i z
           ·obtain rfl : i = p:=by omega
            exact HB.out
      ·have hq : p = 2:=by have:=HK.out; omega
       subst hq
       have c1b : decide (((2 : Nat) : Int) < 2) = false:=by decide
       clear c1
       go_wp2_with (fail)
       have HMY:=Aside0.mk (show ∀ i j,i < 2→j < (Y i).length→(Y i).getD j 0 = ownMk i j from fun i j hi hj=>HM.out i j hi (by rw [← HL.out i hi]; exact hj))
       go_loopg [72] 3 (fun kq v72 w'=>∃ (p : Nat),v72 = .int .i64 (p : Int)∧Aside0 (p + kq = 3∧p≤2)∧w' = wr)
       case atStart=>exact ⟨0,rfl,⟨by omega⟩,rfl⟩
       case round =>
        clear HK
        obtain ⟨p,rfl,HK,rfl⟩:=hrel
        cases gk with
        | zero=>exact absurd HK.out (by omega)
        | succ k2 =>
         by_cases c1 : p < 2
         ·have c1b : decide ((p : Int) < 2) = true:=decide_eq_true (by omega)
          have c1c : ((p : Int) < 2) = True:=eq_true (by omega)
          have c2b : (0≤(p : Int)) = True:=eq_true (by omega)
          obtain ⟨Ap,cp,ep,hC⟩:=HG.out.readV (i:=p) (by omega)
          have k1_:=HG.out.cell c1
          rw [ep] at k1_
          have hyl:=HYX.out p c1
          go_wp2_with (fail)
          go_loopg [79] ((Y p).length + 1) (fun kq v79 w'=>∃ (m : Nat),v79 = .int .i64 (m : Int)∧Aside0 (m + kq = (Y p).length + 1∧m≤(Y p).length)∧w' = wr)
          case atStart=>exact ⟨0,rfl,⟨by omega⟩,rfl⟩
          case round =>
           clear k1_
           obtain ⟨m,rfl,HK3,rfl⟩:=hrel
           cases gk with
           | zero=>exact absurd HK3.out (by omega)
           | succ k3 =>
            by_cases c3 : m < (Y p).length
            ·have c3b : decide ((m : Int) < ((Y p).length : Int)) = true:=decide_eq_true (by omega)
             have c3c : ((m : Int) < ((Y p).length : Int)) = True:=eq_true (by omega)
             have c4b : (0≤(m : Int)) = True:=eq_true (by omega)
             obtain ⟨ad,e1,hx⟩:=Kd.at_int hC (m : Int) (by omega) (by omega)
             subst e1
             rw [show rd (Y p) (m : Int) = ownMk p m by unfold rd; rw [Int.toNat_natCast]; exact HMY.out p m c1 c3,Int.toNat_natCast] at hx
             unfold ownMk at hx
             go_wp2_with (fail)
             go_roundg k3
             case measure=>have:=HK3.out; omega
             case rel=>exact ⟨m + 1,by simp,⟨by have:=HK3.out; omega⟩,rfl⟩
            ·have c3b : decide ((m : Int) < ((Y p).length : Int)) = false:=decide_eq_false (by omega)
             go_wp2_with (fail)
             obtain ⟨Ag,cg,eg,hD⟩:=HG.out.readG (i:=p) (by omega)
             have k2_:=HG.out.cellG c1
             have hbl : (B p).length = 24:=by rw [HE.out p c1]; simp [ends]
             rw [hbl] at eg hD
             rw [eg] at k2_
             go_loopg [13] 25 (fun kq v13 w'=>∃ (m : Nat),v13 = .int .i64 (m : Int)∧Aside0 (m + kq = 25∧m≤24)∧w' = wr)
             case atStart=>exact ⟨0,rfl,⟨by omega⟩,rfl⟩
             case round =>
              clear HK3 c3 c3b
              obtain ⟨m,rfl,HK3,rfl⟩:=hrel
              cases gk with
              | zero=>exact absurd HK3.out (by omega)
              | succ k3 =>
               by_cases c3 : m < 24
               ·have c3b : decide ((m : Int) < 24) = true:=decide_eq_true (by omega)
                obtain ⟨ad,e1,hx⟩:=Kd.at_int hD (((Y p).length : Int) + (m : Int)) (by omega) (by omega)
                subst e1
                have hv : rd (Y p ++ B p) (((Y p).length : Int) + (m : Int)) = ownEnd p m:=by
                 unfold rd
                 rw [show (((Y p).length : Int) + (m : Int)).toNat = (Y p).length + m by omega,List.getD_eq_getElem?_getD,List.getElem?_append_right (by omega),HE.out p c1,Nat.add_sub_cancel_left]
                 unfold ends
                 rw [List.getElem?_map,List.getElem?_range c3]; rfl
                rw [hv,show (((Y p).length : Int) + (m : Int)).toNat = (Y p).length + m by omega] at hx
                unfold ownEnd at hx
                clear hv
                go_wp2_with (fail)
                go_roundg k3
                case measure=>have:=HK3.out; omega
                case rel=>exact ⟨m + 1,by simp,⟨by have:=HK3.out; omega⟩,rfl⟩
               ·have c3b : decide ((m : Int) < 24) = false:=decide_eq_false (by omega)
                go_wp2_with (fail)
                go_roundg k2
                case measure=>have:=HK.out; omega
                case rel=>exact ⟨p + 1,by simp,⟨by have:=HK.out; omega⟩,rfl⟩
         ·have hq : p = 2:=by have:=HK.out; omega
          subst hq
          have c1b : decide (((2 : Nat) : Int) < 2) = false:=by decide
          go_wp2_with (fail)
          go_ret
          exact ⟨rfl,HG.out.hb⟩
def sapperref01_Own.f (l : List (List Int)) : Option Bool:=if l.length = 2∧l.all (fun x=>decide (x.length≤1073741824)) = true then some true else none
theorem own_lit {w0 w : World} {A B : Option Addr} {xa xb : List Int} {ca cb : Nat} {oa ob : Nat→Prop} {y : List (List Int)} {r : Bool} (hb : Below w0.heap.size w0 w) (ha : (Kd.int .u8).R 5 w w0.heap.size oa (.slice A xa.length ca) xa) (hbb : (Kd.int .u8).R 5 w w0.heap.size ob (.slice B xb.length cb) xb)
  (hne : ∀ k,oa k→some k ≠ (.slice B xb.length cb : Value).ownBlock) (h : sapperref01_Own.f y = some r) (hy : y = [xa,xb]) :
  Calls Try.prog 36 #[.slice (some ⟨w.heap.size,0,none⟩) 2 2] (w.alloc (.cells #[.slice A xa.length ca,.slice B xb.length cb] 23)) fun e w'=>e = .returned (.bool r)∧Below w0.heap.size w0 w':=by
 subst hy
 unfold sapperref01_Own.f at h
 split at h
 case isFalse=>cases h
 rename_i hc
 obtain rfl:=Option.some.inj h
 have h2:=hc.2
 simp only [List.all_cons,List.all_nil,Bool.and_true,Bool.and_eq_true,decide_eq_true_eq] at h2
 have h0 : ∀ k,some k = (.slice A xa.length ca : Value).ownBlock→some k ≠ (.slice B xb.length cb : Value).ownBlock:=fun k hk=>hne k (ha.1 k hk.symm)
 refine own_two (w0:=w0) (V:=fun i=>if i = 0 then .slice A xa.length ca else .slice B xb.length cb) (X:=fun i=>if i = 0 then xa else xb) (below_alloc hb _) hb.size (by show (w.heap.push _)[w.heap.size]? = _; simp) (fun i hi=>?_) (fun i j hi hj e k=>?_) (fun i hi=>?_)
 ·rcases (by omega : i = 0∨i = 1) with rfl | rfl
  ·exact Kd.R_tight rfl (Kd.R_alloc ha _)
  ·exact Kd.R_tight rfl (Kd.R_alloc hbb _)
 ·rcases (by omega : (i = 0∧j = 1)∨(i = 1∧j = 0)) with ⟨rfl,rfl⟩ | ⟨rfl,rfl⟩
  ·exact h0 k
  ·exact fun hk hk2=>h0 k hk2 hk
 ·rcases (by omega : i = 0∨i = 1) with rfl | rfl
  ·exact h2.1
  ·exact h2.2
theorem own_litN {w0 w : World} {A B : Option Addr} {xa xb : List Int} {ca cb : Nat} {oa ob : Nat→Prop} {y : List (List Int)} {r : Bool} (hb : Below w0.heap.size w0 w) (ha : (Kd.int .u8).R 5 w w0.heap.size oa (.slice A xa.length ca) xa) (hbb : (Kd.int .u8).R 5 w w0.heap.size ob (.slice B xb.length cb) xb)
  (hne : ∀ k,oa k→some k ≠ (.slice B xb.length cb : Value).ownBlock) (h : sapperref01_Own.f y = some r) (hy : y = [xa,xb]) (n : Nat) :
  Calls Try.prog 36 #[.slice (some ⟨w.heap.size,0,none⟩) 2 2] ((w.drewN n).alloc (.cells #[.slice A xa.length ca,.slice B xb.length cb] 23)) fun e w'=>e = .returned (.bool r)∧Below w0.heap.size w0 w' :=
 own_lit (w:=w.drewN n) (pw_below_drewN hb n) (Kd.R_drewN ha n) (Kd.R_drewN hbb n) hne h hy
theorem R_raise {w : World} {base base' : Nat} {ok : Nat→Prop} {v : Value} {xs : List Int} {e : Nat} (h : (Kd.int .u8).R e w base ok v xs) (hg : ∀ k,v.ownBlock = some k→base'≤k) : (Kd.int .u8).R e w base' ok v xs:=by
 obtain ⟨h0,inner,⟨hl,ho⟩,hr⟩:=h
 refine ⟨h0,inner,⟨hl,?_⟩,hr.imp_ (fun _ _ hp=>hp)⟩
 rcases ho with ho | ⟨gr,cap,cur,e1,hb,rest⟩
 ·exact .inl ho
 ·exact .inr ⟨gr,cap,cur,e1,hg gr (by rw [e1]; rfl),rest⟩
end Go.Proofs.Ythcnnfahlhklgaa.X
