/- By hand: package suffix: the groups of Repeats (told as four numbers), and take. -/
import Derived.Test.YthcnnfahlhklgaaXx28
import Derived.BigRegion
import Derived.BigQuiet
import Derived.Maps.AppendAt
namespace Go.Proofs.Ythcnnfahlhklgaa.X
open Go.RowKit Go.Proofs.YthcnnfahlhklgaaW.PrintWords Go.Proofs.YthcnnfahlhklgaaW.PrintLast Go.Proofs.YthcnnfahlhklgaaW.PrintMore
attribute [local go_sem] max2_int min2_int max_two min_two
set_option linter.unusedVariables false
set_option linter.unusedSimpArgs false
structure Gp where
 co : Int
 fi : Int
 at_ : Int
 ah : Int
instance : Inhabited Gp:=⟨⟨0,0,0,0⟩⟩
def tk (g o : Gp) : Gp:=⟨g.co,g.fi,if o.at_ < g.at_ then o.at_ else g.at_,if g.ah = o.ah then g.ah else -1⟩
def gv (g : Gp) : Value:=.agg #[.int .i64 g.co,.int .i64 g.fi,.int .i64 g.at_,.int .i64 g.ah]
structure On (b : Nat) (w w' : World) : Prop where
 os : w'.os = w.os
 tape : w'.tape = w.tape
 output : w'.output = w.output
 size : w.heap.size≤w'.heap.size
 block : ∀ i,i < w.heap.size→i ≠ b→w'.heap[i]? = w.heap[i]?
theorem On.of_below {b : Nat} {w w' : World} (h : Below w.heap.size w w') : On b w w':=⟨h.os,h.tape,h.output,h.size,fun i hi _=>h.block i hi⟩
theorem On.trans {b : Nat} {a c d : World} (h : On b a c) (k : On b c d) : On b a d:=⟨k.os.trans h.os,k.tape.trans h.tape,k.output.trans h.output,Nat.le_trans h.size k.size,fun i hi h1=>(k.block i (Nat.lt_of_lt_of_le hi h.size) h1).trans (h.block i hi h1)⟩
theorem On.set {b : Nat} {w : World} (j : Nat) (v : Value) : On b w (w.setCell ⟨b,j,none⟩ v):=⟨rfl,rfl,rfl,by simp [World.setCell],fun i _ h1=>Below.heap_setCell _ _ _ _ h1⟩
theorem On.below {b B : Nat} {w w' : World} (h : On b w w') (hb : B≤b) (hs : B≤w.heap.size) : Below B w w':=⟨h.os,h.tape,h.output,h.size,fun i hi=>h.block i (by omega) (by omega)⟩
set_option maxHeartbeats 2000000 in
set_option maxRecDepth 100000 in
theorem take_ok {w : World} {b off : Nat} {T : TypeId} {cs : Array Value} {g o : Gp} (hb : w.heap[b]? = some (.cells cs T (0,0))) (h2 : cs[off + 2]? = some (.int .i64 g.at_)) (h3 : cs[off + 3]? = some (.int .i64 g.ah)) :
  Calls Try.prog 59 #[.pointer (some ⟨b,off,none⟩),gv o] w fun e w'=>e = .returned (.tuple #[])∧w'.heap[b]? = some (.cells ((cs.setIfInBounds (off + 2) (.int .i64 (tk g o).at_)).setIfInBounds (off + 3) (.int .i64 (tk g o).ah)) T (0,0))∧On b w w':=by
 have hl:=blk_lt hb
 obtain ⟨W1,hW1⟩ : ∃ W,W = w.alloc (.cells #[.int .i64 o.co,.int .i64 o.fi,.int .i64 o.at_,.int .i64 o.ah] 97):=⟨_,rfl⟩
 have hb1 : W1.heap[b]? = some (.cells cs T (0,0)):=by rw [hW1]; exact blk_alloc hb _
 have hn1 : W1.heap[w.heap.size]? = some (.cells #[.int .i64 o.co,.int .i64 o.fi,.int .i64 o.at_,.int .i64 o.ah] 97):=by rw [hW1]; exact blk_new _ _
 have hO : On b w W1:=by rw [hW1]; exact On.of_below (below_alloc (Below.refl _ _) _)
 have x2 : W1.cell? ⟨b,off + 2,none⟩ = some (.int .i64 g.at_):=by rw [blk_cell hb1]; exact h2
 have x3 : W1.cell? ⟨b,off + 3,none⟩ = some (.int .i64 g.ah):=by rw [blk_cell hb1]; exact h3
 have f2 : W1.frozen? ⟨b,off + 2,none⟩ = false:=blk_frozen hb1 _
 have y2 : W1.cell? ⟨w.heap.size,2,none⟩ = some (.int .i64 o.at_):=by rw [blk_cell hn1]; rfl
 have y3 : W1.cell? ⟨w.heap.size,3,none⟩ = some (.int .i64 o.ah):=by rw [blk_cell hn1]; rfl
 unfold gv
 go_enter Try.func59,Try.ntmps59
 go_wp2_with (fail)
 rw [← hW1]
 clear hW1
 go_region
 have e1 : (if o.at_ < g.at_ then o.at_ else g.at_) = (tk g o).at_:=rfl
 rw [e1]
 have hb2 : (W1.setCell ⟨b,off + 2,none⟩ (.int .i64 (tk g o).at_)).drew.heap[b]? = some (.cells (cs.setIfInBounds (off + 2) (.int .i64 (tk g o).at_)) T (0,0)):=blk_set hb1 _ _
 have hn2 : (W1.setCell ⟨b,off + 2,none⟩ (.int .i64 (tk g o).at_)).drew.heap[w.heap.size]? = some (.cells #[.int .i64 o.co,.int .i64 o.fi,.int .i64 o.at_,.int .i64 o.ah] 97):=(Below.heap_setCell W1 ⟨b,off + 2,none⟩ _ _ (by show w.heap.size ≠ b; omega)).trans hn1
 have hO2 : On b w (W1.setCell ⟨b,off + 2,none⟩ (.int .i64 (tk g o).at_)).drew:=hO.trans ((On.set (off + 2) (.int .i64 (tk g o).at_)).trans ⟨rfl,rfl,rfl,Nat.le_refl _,fun _ _ _=>rfl⟩)
 clear x2 x3 f2 y2 y3 hb1 hn1 hO e1
 generalize (W1.setCell ⟨b,off + 2,none⟩ (.int .i64 (tk g o).at_)).drew = W2 at hb2 hn2 hO2 ⊢
 obtain ⟨za,hza⟩ : ∃ z,z = (tk g o).at_:=⟨_,rfl⟩
 rw [← hza] at hb2 ⊢
 have HZ:=Aside0.mk hza
 clear hza
 have x3 : W2.cell? ⟨b,off + 3,none⟩ = some (.int .i64 g.ah):=by
  rw [blk_cell hb2]
  simp only [Array.getElem?_setIfInBounds]
  rw [if_neg (by omega)]; exact h3
 have y3 : W2.cell? ⟨w.heap.size,3,none⟩ = some (.int .i64 o.ah):=by rw [blk_cell hn2]; rfl
 have HB:=Aside0.mk hb2
 have HO:=Aside0.mk hO2
 have H3:=Aside0.mk h3
 clear hb2 hn2 hO2 hb h2 h3
 by_cases c : g.ah = o.ah
 ·have cb : (g.ah != o.ah) = false:=by simp [c]
  have et : (tk g o).ah = g.ah:=by unfold tk; simp only; rw [if_pos c]
  have HE:=Aside0.mk et
  clear c et
  go_wp2_with (fail)
  go_quiet (fail)
  go_wp2
  refine ⟨rfl,_,results_none rfl _ _ _,rfl,?_,HO.out.trans ⟨rfl,rfl,rfl,Nat.le_refl _,fun _ _ _=>rfl⟩⟩
  rw [HE.out,← HZ.out]
  have : cs.setIfInBounds (off + 2) (.int .i64 za) = (cs.setIfInBounds (off + 2) (.int .i64 za)).setIfInBounds (off + 3) (.int .i64 g.ah):=by
   apply Array.ext_getElem?
   intro j
   simp only [Array.getElem?_setIfInBounds,Array.size_setIfInBounds]
   by_cases cj : off + 3 = j
   ·subst cj
    rw [if_pos rfl,if_neg (by omega),H3.out]
    have:=(Array.getElem?_eq_some_iff.1 H3.out).1
    rw [if_pos this]
   ·rw [if_neg cj]
  rw [← this]
  exact HB.out
 ·have cb : (g.ah != o.ah) = true:=by simp [c]
  have et : (tk g o).ah = -1:=by unfold tk; simp only; rw [if_neg c]
  have HE:=Aside0.mk et
  clear c et
  go_wp2_with (fail)
  go_quiet (fail)
  have f3 : (W2.drewN nq).frozen? ⟨b,off + 3,none⟩ = false:=blk_frozen (blk_drewN HB.out nq) _
  go_wp2
  refine ⟨rfl,_,results_none rfl _ _ _,rfl,?_,(HO.out.trans (show On b W2 (W2.drewN nq) from ⟨rfl,rfl,rfl,Nat.le_refl _,fun _ _ _=>rfl⟩)).trans (On.set (off + 3) (.int .i64 (-1)))⟩
  rw [HE.out,← HZ.out]
  exact blk_set (blk_drewN HB.out nq) _ _
end Go.Proofs.Ythcnnfahlhklgaa.X
