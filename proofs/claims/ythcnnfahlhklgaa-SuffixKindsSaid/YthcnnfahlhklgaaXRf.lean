/- By hand: what SortFunc is handed in Repeats: the closure's comparison. -/
import Derived.Test.YthcnnfahlhklgaaXRe
import Derived.Deep.RegionHeld3
import Derived.Sort.Grow
namespace Go.Proofs.Ythcnnfahlhklgaa.X
open Go.RowKit Go.Proofs.YthcnnfahlhklgaaW.PrintWords Go.Proofs.YthcnnfahlhklgaaW.PrintLast Go.Proofs.YthcnnfahlhklgaaW.PrintMore
open Go.Sort
set_option linter.unusedVariables false
set_option linter.unusedSimpArgs false

def cmpI (a b : Int) : Int:=if a < b then -1 else if b < a then 1 else 0
theorem nan_ok {w : World} (a : Int) : Calls Try.prog 69 #[.int .i64 a] w fun e w'=>e = .returned (.bool false)∧w' = w:=by
 go_enter Try.func69,Try.ntmps69
 go_wp2
 go_ret
 exact ⟨by simp,rfl⟩
theorem compare_ok {w : World} (a b : Int) : Calls Try.prog 63 #[.int .i64 a,.int .i64 b] w fun e w'=>e = .returned (.int .i64 (cmpI a b))∧w' = w:=by
 by_cases c1 : a < b
 ·have c1b : decide (a < b) = true:=decide_eq_true c1
  have e : cmpI a b = -1:=by unfold cmpI; rw [if_pos c1]
  rw [e]
  clear c1
  go_enter Try.func63,Try.ntmps63
  go_wp2_with (go_at_call 69; refine (nan_ok _).mono ?_; rintro e w' ⟨rfl,rfl⟩)
  go_ret
  exact ⟨rfl,rfl⟩
 ·have c1b : decide (a < b) = false:=decide_eq_false c1
  by_cases c2 : b < a
  ·have c2b : decide (b < a) = true:=decide_eq_true c2
   have e : cmpI a b = 1:=by unfold cmpI; rw [if_neg c1,if_pos c2]
   rw [e]
   clear c1 c2
   go_enter Try.func63,Try.ntmps63
   go_wp2_with (go_at_call 69; refine (nan_ok _).mono ?_; rintro e w' ⟨rfl,rfl⟩)
   go_ret
   exact ⟨rfl,rfl⟩
  ·have c2b : decide (b < a) = false:=decide_eq_false c2
   have e : cmpI a b = 0:=by unfold cmpI; rw [if_neg c1,if_neg c2]
   rw [e]
   clear c1 c2
   go_enter Try.func63,Try.ntmps63
   go_wp2_with (go_at_call 69; refine (nan_ok _).mono ?_; rintro e w' ⟨rfl,rfl⟩)
   go_ret
   exact ⟨rfl,rfl⟩
def orI (x y : Int) : Int:=if x ≠ 0 then x else y
theorem or_ok {w : World} {b : Nat} {x y : Int} (hb : w.heap[b]? = some (.cells #[.int .i64 x,.int .i64 y] 3)) : Calls Try.prog 62 #[.slice (some ⟨b,0,none⟩) 2 2] w fun e w'=>e = .returned (.int .i64 (orI x y))∧w' = w:=by
 have c0 : w.cell? ⟨b,0,none⟩ = some (.int .i64 x):=by simp [World.cell?,hb]
 have c1 : w.cell? ⟨b,1,none⟩ = some (.int .i64 y):=by simp [World.cell?,hb]
 clear hb
 by_cases cx : x = 0
 ·rw [show orI x y = y by unfold orI; rw [if_neg (by simp [cx])]]
  have cxb : (x != 0) = false:=by simp [cx]
  clear cx
  by_cases cy : y = 0
  ·subst cy
   have cyb : ((0 : Int) != 0) = false:=by decide
   go_enter Try.func62,Try.ntmps62
   go_wp2_with (fail)
   refine wp_loop_rounds 3 ?_
   rw [rounds_succ]
   go_wp2_with (fail)
   rw [rounds_succ]
   go_wp2_with (fail)
   rw [rounds_succ]
   go_wp2
   go_ret
   exact ⟨rfl,rfl⟩
  ·have cyb : (y != 0) = true:=by simp [cy]
   clear cy
   go_enter Try.func62,Try.ntmps62
   go_wp2_with (fail)
   refine wp_loop_rounds 3 ?_
   rw [rounds_succ]
   go_wp2_with (fail)
   rw [rounds_succ]
   go_wp2
   go_ret
   exact ⟨rfl,rfl⟩
 ·rw [show orI x y = x by unfold orI; rw [if_pos cx]]
  have cxb : (x != 0) = true:=by simp [cx]
  clear cx
  go_enter Try.func62,Try.ntmps62
  go_wp2_with (fail)
  refine wp_loop_rounds 3 ?_
  rw [rounds_succ]
  go_wp2
  go_ret
  exact ⟨rfl,rfl⟩
def cmpF (x y : Fd) : Int:=orI (cmpI x.fi y.fi) (cmpI x.ag.f1 y.ag.f1)
set_option maxHeartbeats 2000000 in
theorem closure_ok {w : World} (x y : Fd) : Calls Try.prog 61 #[.agg (Enc4.enc x).toArray,.agg (Enc4.enc y).toArray] w fun e w'=>e = .returned (.int .i64 (cmpF x y))∧∃ q os',w' = grow (w.drewN q) os':=by
 rw [enc_fd,enc_fd]
 go_enter Try.func61,Try.ntmps61
 go_wp2_with (fail)
 have hA:=blk_alloc (blk_new w (.cells #[.int .i64 x.fi,.int .i64 x.ag.f0,.int .i64 x.ag.f1,.int .i64 x.ag.f2] 101)) (.cells #[.int .i64 y.fi,.int .i64 y.ag.f0,.int .i64 y.ag.f1,.int .i64 y.ag.f2] 101)
 have hB:=blk_new (w.alloc (.cells #[.int .i64 x.fi,.int .i64 x.ag.f0,.int .i64 x.ag.f1,.int .i64 x.ag.f2] 101)) (.cells #[.int .i64 y.fi,.int .i64 y.ag.f0,.int .i64 y.ag.f1,.int .i64 y.ag.f2] 101)
 rw [show (w.alloc (.cells #[.int .i64 x.fi,.int .i64 x.ag.f0,.int .i64 x.ag.f1,.int .i64 x.ag.f2] 101)).heap.size = w.heap.size + 1 by simp] at hB
 have hG : ((w.alloc (.cells #[.int .i64 x.fi,.int .i64 x.ag.f0,.int .i64 x.ag.f1,.int .i64 x.ag.f2] 101)).alloc (.cells #[.int .i64 y.fi,.int .i64 y.ag.f0,.int .i64 y.ag.f1,.int .i64 y.ag.f2] 101)) = grow w #[.cells #[.int .i64 x.fi,.int .i64 x.ag.f0,.int .i64 x.ag.f1,.int .i64 x.ag.f2] 101,.cells #[.int .i64 y.fi,.int .i64 y.ag.f0,.int .i64 y.ag.f1,.int .i64 y.ag.f2] 101]:=by rw [alloc_eq_grow,alloc_eq_grow,grow_grow]; rfl
 generalize ((w.alloc (.cells #[.int .i64 x.fi,.int .i64 x.ag.f0,.int .i64 x.ag.f1,.int .i64 x.ag.f2] 101)).alloc (.cells #[.int .i64 y.fi,.int .i64 y.ag.f0,.int .i64 y.ag.f1,.int .i64 y.ag.f2] 101)) = W2 at hA hB hG ⊢
 have HG:=Aside0.mk hG
 have x0 : W2.cell? ⟨w.heap.size,0,none⟩ = some (.int .i64 x.fi):=by rw [blk_cell hA]; rfl
 have x2 : W2.cell? ⟨w.heap.size,2,none⟩ = some (.int .i64 x.ag.f1):=by rw [blk_cell hA]; rfl
 have y0 : W2.cell? ⟨w.heap.size + 1,0,none⟩ = some (.int .i64 y.fi):=by rw [blk_cell hB]; rfl
 have y2 : W2.cell? ⟨w.heap.size + 1,2,none⟩ = some (.int .i64 y.ag.f1):=by rw [blk_cell hB]; rfl
 clear hA hB hG
 go_region_held3 (fun w'=>w'.cell? ⟨w.heap.size,0,none⟩ = some (.int .i64 x.fi)∧w'.cell? ⟨w.heap.size,2,none⟩ = some (.int .i64 x.ag.f1)∧w'.cell? ⟨w.heap.size + 1,0,none⟩ = some (.int .i64 y.fi)∧w'.cell? ⟨w.heap.size + 1,2,none⟩ = some (.int .i64 y.ag.f1))
  (first | exact ⟨x0,x2,y0,y2⟩ | exact ⟨pw_cell_below (below_alloc (Below.refl _ _) _) x0,pw_cell_below (below_alloc (Below.refl _ _) _) x2,pw_cell_below (below_alloc (Below.refl _ _) _) y0,pw_cell_below (below_alloc (Below.refl _ _) _) y2⟩)
  (first
   | (go_at_call 63; refine (compare_ok _ _).mono ?_; rintro e w' ⟨rfl,rfl⟩)
   | (go_at_call 62; refine (or_ok (x:=cmpI x.fi y.fi) (y:=cmpI x.ag.f1 y.ag.f1) (blk_drew (blk_new W2 _))).mono ?_; rintro e w' ⟨rfl,rfl⟩))
 go_wp2
 go_ret
 exact ⟨rfl,1,_,by rw [HG.out,alloc_eq_grow,grow_grow]; rfl⟩
end Go.Proofs.Ythcnnfahlhklgaa.X
