/- By hand: an index on its way (suffix.build): its block, and the four rows of its own; how each event turns them; and, at the end, the index as a row of one struct. -/
import Derived.Test.YthcnnfahlhklgaaXx0
namespace Go.Proofs.Ythcnnfahlhklgaa.X
open Go.RowKit Go.Proofs.YthcnnfahlhklgaaW.PrintWords Go.Proofs.YthcnnfahlhklgaaW.PrintLast Go.Proofs.YthcnnfahlhklgaaW.PrintMore

section
variable {α β : Type} {d1 : Kd α} {d2 : Kd β} {e1 e2 b1 b2 : Nat} {w : World} {ok1 ok2 : Nat→Prop} {v1 v2 : Value} {xs : List α} {ys : List β}
theorem ne_type (h1 : d1.R e1 w b1 ok1 v1 xs) (h2 : d2.R e2 w b2 ok2 v2 ys) (hne : e1 ≠ e2) : ∀ k,some k = v1.ownBlock→some k ≠ v2.ownBlock:=by
 intro k hk hk2
 obtain ⟨i1,o1⟩:=Kd.R_own h1
 obtain ⟨i2,o2⟩:=Kd.R_own h2
 obtain ⟨c1,hc1⟩:=own_typed o1 k hk.symm
 obtain ⟨c2,hc2⟩:=own_typed o2 k hk2.symm
 rw [hc1] at hc2
 injection hc2 with hc2
 injection hc2 with _ hc2
 exact hne hc2
end
def St (w w' : World) (g : Nat) (vD vA vR vL : Value) (d a rk l : List Int) : Prop :=
 Below w.heap.size w w'∧w.heap.size≤g∧w'.heap[g]? = some (.cells #[.bool true,vD,vA,vR,vL] 82 (0,0)) ∧
 (Kd.int .u8).R 5 w' w.heap.size (fun k=>some k = vD.ownBlock) vD d∧(Kd.int .i64).R 3 w' w.heap.size (fun k=>some k = vA.ownBlock) vA a ∧
 (Kd.int .i64).R 3 w' w.heap.size (fun k=>some k = vR.ownBlock) vR rk∧(Kd.int .i64).R 3 w' w.heap.size (fun k=>some k = vL.ownBlock) vL l ∧
 vA.ownBlock ≠ vR.ownBlock∧vA.ownBlock ≠ vL.ownBlock∧vR.ownBlock ≠ vL.ownBlock

section
variable {w w1 w2 : World} {g : Nat} {vD vA vR vL : Value} {d a rk l r : List Int}
theorem St.hb (h : St w w1 g vD vA vR vL d a rk l) : Below w.heap.size w w1:=h.1
theorem St.D (h : St w w1 g vD vA vR vL d a rk l) : (Kd.int .u8).R 5 w1 w.heap.size (fun k=>some k = vD.ownBlock) vD d:=h.2.2.2.1
theorem St.A (h : St w w1 g vD vA vR vL d a rk l) : (Kd.int .i64).R 3 w1 w.heap.size (fun k=>some k = vA.ownBlock) vA a:=h.2.2.2.2.1
theorem St.R (h : St w w1 g vD vA vR vL d a rk l) : (Kd.int .i64).R 3 w1 w.heap.size (fun k=>some k = vR.ownBlock) vR rk:=h.2.2.2.2.2.1
theorem St.L (h : St w w1 g vD vA vR vL d a rk l) : (Kd.int .i64).R 3 w1 w.heap.size (fun k=>some k = vL.ownBlock) vL l:=h.2.2.2.2.2.2.1
theorem St.drewN (h : St w w1 g vD vA vR vL d a rk l) (n : Nat) : St w (w1.drewN n) g vD vA vR vL d a rk l:=⟨pw_below_drewN h.1 n,h.2⟩
theorem St.cells (h : St w w1 g vD vA vR vL d a rk l) : w1.cell? ⟨g,1,none⟩ = some vD∧w1.cell? ⟨g,2,none⟩ = some vA∧w1.cell? ⟨g,3,none⟩ = some vR∧w1.cell? ⟨g,4,none⟩ = some vL :=
 ⟨(blk_cell h.2.2.1 1).trans rfl,(blk_cell h.2.2.1 2).trans rfl,(blk_cell h.2.2.1 3).trans rfl,(blk_cell h.2.2.1 4).trans rfl⟩
theorem St.turnD (h : St w w1 g vD vA vR vL d a rk l) (hb : Below w.heap.size w w2) (hk : Kept w1 w2 (fun k=>some k = vD.ownBlock)) (hr : (Kd.int .u8).R 5 w2 w.heap.size (fun k=>some k = vD.ownBlock) vD r) : St w w2 g vD vA vR vL r a rk l:=by
 obtain ⟨_,h2,h3,h4,h5,h6,h7,h8,h9,h10⟩:=h
 exact ⟨hb,h2,blk_kept h3 hk (Kd.R_ne h4 h3 (by decide)),hr,Kd.R_kept h5 hk (fun k e=>ne_type h5 h4 (by decide) k e),Kd.R_kept h6 hk (fun k e=>ne_type h6 h4 (by decide) k e),Kd.R_kept h7 hk (fun k e=>ne_type h7 h4 (by decide) k e),h8,h9,h10⟩
theorem St.turnA (h : St w w1 g vD vA vR vL d a rk l) (hb : Below w.heap.size w w2) (hk : Kept w1 w2 (fun k=>some k = vA.ownBlock)) (hr : (Kd.int .i64).R 3 w2 w.heap.size (fun k=>some k = vA.ownBlock) vA r) : St w w2 g vD vA vR vL d r rk l:=by
 obtain ⟨_,h2,h3,h4,h5,h6,h7,h8,h9,h10⟩:=h
 exact ⟨hb,h2,blk_kept h3 hk (Kd.R_ne h5 h3 (by decide)),Kd.R_kept h4 hk (fun k e=>ne_type h4 h5 (by decide) k e),hr,Kd.R_kept h6 hk (fun k e e2=>h8 (e2.symm.trans e)),Kd.R_kept h7 hk (fun k e e2=>h9 (e2.symm.trans e)),h8,h9,h10⟩
theorem St.turnR (h : St w w1 g vD vA vR vL d a rk l) (hb : Below w.heap.size w w2) (hk : Kept w1 w2 (fun k=>some k = vR.ownBlock)) (hr : (Kd.int .i64).R 3 w2 w.heap.size (fun k=>some k = vR.ownBlock) vR r) : St w w2 g vD vA vR vL d a r l:=by
 obtain ⟨_,h2,h3,h4,h5,h6,h7,h8,h9,h10⟩:=h
 exact ⟨hb,h2,blk_kept h3 hk (Kd.R_ne h6 h3 (by decide)),Kd.R_kept h4 hk (fun k e=>ne_type h4 h6 (by decide) k e),Kd.R_kept h5 hk (fun k e e2=>h8 (e.symm.trans e2)),hr,Kd.R_kept h7 hk (fun k e e2=>h10 (e2.symm.trans e)),h8,h9,h10⟩
theorem St.turnL (h : St w w1 g vD vA vR vL d a rk l) (hb : Below w.heap.size w w2) (hk : Kept w1 w2 (fun k=>some k = vL.ownBlock)) (hr : (Kd.int .i64).R 3 w2 w.heap.size (fun k=>some k = vL.ownBlock) vL r) : St w w2 g vD vA vR vL d a rk r:=by
 obtain ⟨_,h2,h3,h4,h5,h6,h7,h8,h9,h10⟩:=h
 exact ⟨hb,h2,blk_kept h3 hk (Kd.R_ne h7 h3 (by decide)),Kd.R_kept h4 hk (fun k e=>ne_type h4 h7 (by decide) k e),Kd.R_kept h5 hk (fun k e e2=>h9 (e.symm.trans e2)),Kd.R_kept h6 hk (fun k e e2=>h10 (e.symm.trans e2)),hr,h8,h9,h10⟩
theorem St.putR {gr m c : Nat} (h : St w w1 g vD vA (.slice (some ⟨gr,0,none⟩) m c) vL d a rk l) (i x : Int) : St w (w1.setCell ⟨gr,i.toNat,none⟩ (.int .i64 x)) g vD vA (.slice (some ⟨gr,0,none⟩) m c) vL d a (rk.set i.toNat x) l:=by
 have hp:=Kd.R_putg h.R i x
 have hge : w.heap.size≤gr:=Kd.R_base h.R gr rfl
 refine h.turnR (below_set h.hb hge) ?_ hp.1
 exact Kept.of_grown hp.2 (Kept.refl _ _) (fun k hk=>.inl (by rw [← hk]; rfl))
theorem St.putL {gl m c : Nat} (h : St w w1 g vD vA vR (.slice (some ⟨gl,0,none⟩) m c) d a rk l) (i x : Int) : St w (w1.setCell ⟨gl,i.toNat,none⟩ (.int .i64 x)) g vD vA vR (.slice (some ⟨gl,0,none⟩) m c) d a rk (l.set i.toNat x):=by
 have hp:=Kd.R_putg h.L i x
 have hge : w.heap.size≤gl:=Kd.R_base h.L gl rfl
 refine h.turnL (below_set h.hb hge) ?_ hp.1
 exact Kept.of_grown hp.2 (Kept.refl _ _) (fun k hk=>.inl (by rw [← hk]; rfl))
theorem St.toR (h : St w w1 g vD vA vR vL d a rk l) : k82.R 82 w1 w.heap.size (fun _=>True) (.slice (some ⟨g,0,none⟩) 1 1) [⟨true,d,a,rk,l⟩]:=by
 obtain ⟨h1,h2,h3,h4,h5,h6,h7,h8,h9,h10⟩:=h
 have hok : ∀ {e : Nat} {dd : Kd Int} {v : Value} {xs : List Int},dd.R e w1 w.heap.size (fun k=>some k = v.ownBlock) v xs→e ≠ 82→dd.R e w1 w.heap.size (fun k=>True∧some k ≠ (Value.slice (some ⟨g,0,none⟩) 1 1).ownBlock) v xs:=by
  intro e dd v xs hr hne
  exact Kd.R_mono hr (fun k hk=>⟨trivial,fun hk2=>by
   have : some g = v.ownBlock:=by rw [← hk,hk2]; rfl
   exact Kd.R_ne hr h3 hne this⟩)
 refine ⟨fun _ _=>trivial,[.bool true,vD,vA,vR,vL],?_,?_⟩
 ·exact ⟨rfl,.inr ⟨g,1,_,rfl,h2,h3,Nat.le_refl _,by unfold maxLen; omega,rfl,rfl⟩⟩
 ·exact Reps.c5 (k82_mkM w1 w.heap.size _ ⟨true,d,a,rk,l⟩ (hok h4 (by decide)) (hok h5 (by decide)) (hok h6 (by decide)) (hok h7 (by decide))) (Reps.none _ _)
theorem St.toC (h : St w w1 g vD vA vR vL d a rk l) : k82.C w1 (some ⟨g,0,none⟩) 1 [⟨true,d,a,rk,l⟩]:=by
 have:=(Kd.R_reads' h.toR).2.2
 exact this
theorem S_of_one {α : Type} {dd : Kd α} {e base : Nat} {ok : Nat→Prop} {v : Value} {x : α} (h : dd.R e w base ok v [x]) : Kd.S dd e w base ok v [x]:=by
 obtain ⟨h0,inner,ho,hr⟩:=h
 refine ⟨fun _=>0,h0,inner,ho,?_⟩
 refine ⟨hr.1,fun j p hj=>?_⟩
 have hj0 : j = 0:=by
  have:=(List.getElem?_eq_some_iff.1 hj).1
  simpa using this
 subst hj0
 have hp : p = (x,0):=by simpa using hj.symm
 subst hp
 have:=hr.2 0 x rfl
 exact dd.M_mono (fun k hk=>⟨hk,rfl⟩) this
theorem St.toS (h : St w w1 g vD vA vR vL d a rk l) : Kd.S k82 82 w1 w.heap.size (fun _=>True) (.slice (some ⟨g,0,none⟩) 1 1) [⟨true,d,a,rk,l⟩]:=S_of_one h.toR
end
end Go.Proofs.Ythcnnfahlhklgaa.X
