/- By hand: rows of elements of four cells (the groups, and what was found): one element, the last one, a cut, a store, an append. -/
import Derived.Test.YthcnnfahlhklgaaXRd
namespace Go.Proofs.Ythcnnfahlhklgaa.X
open Go.RowKit Go.Proofs.YthcnnfahlhklgaaW.PrintWords Go.Proofs.YthcnnfahlhklgaaW.PrintLast Go.Proofs.YthcnnfahlhklgaaW.PrintMore
set_option linter.unusedVariables false
set_option linter.unusedSimpArgs false

section
variable {α : Type}
class Enc4 (α : Type) where
 enc : α→List Value
 len : ∀ x,(enc x).length = 4
 one : ∀ x,∀ v ∈ enc x,v.oneCell' = true
variable [Enc4 α]
def kcs (L : List α) : List Value:=L.flatMap Enc4.enc
theorem kcs_nil : kcs ([] : List α) = []:=rfl
theorem kcs_cons (x : α) (L : List α) : kcs (x :: L) = Enc4.enc x ++ kcs L:=by unfold kcs; rw [List.flatMap_cons]
theorem kcs_append (L M : List α) : kcs (L ++ M) = kcs L ++ kcs M:=by unfold kcs; rw [List.flatMap_append]
theorem kcs_one (x : α) : kcs [x] = Enc4.enc x:=by unfold kcs; simp
theorem kcs_length : ∀ L : List α,(kcs L).length = L.length * 4
 | []=>rfl
 | x :: L=>by rw [kcs_cons,List.length_append,kcs_length L,List.length_cons,Enc4.len]; omega
theorem kcs_get [Inhabited α] {j : Nat} (hj : j < 4) : ∀ {L : List α} {k : Nat},k < L.length→(kcs L)[k * 4 + j]? = (Enc4.enc (L.getD k default))[j]?
 | [],k,hk=>absurd hk (by simp)
 | x :: L,0,_=>by rw [kcs_cons,List.getElem?_append_left (by rw [Enc4.len]; omega)]; simp
 | x :: L,k + 1,hk=>by
  rw [kcs_cons,List.getElem?_append_right (by rw [Enc4.len]; omega),show (k + 1) * 4 + j - (Enc4.enc x).length = k * 4 + j by rw [Enc4.len]; omega,kcs_get hj (by simpa using hk)]
  rfl
theorem kcs_mem : ∀ {L : List α} {u : Value},u ∈ kcs L→u.oneCell' = true
 | [],u,h=>by cases h
 | x :: L,u,h=>by
  rw [kcs_cons] at h
  rcases List.mem_append.1 h with h | h
  ·exact Enc4.one x u h
  ·exact kcs_mem h
theorem kcs_last {j : Nat} (hj : j < 4) (S : List α) (g : α) : (kcs (S ++ [g]))[S.length * 4 + j]? = (Enc4.enc g)[j]?:=by
 rw [kcs_append,List.getElem?_append_right (by rw [kcs_length]; omega),kcs_length,Nat.add_sub_cancel_left,kcs_one]
theorem kcs_cut (S : List α) (g : α) : (kcs (S ++ [g])).take (S.length * 4) = kcs S:=by
 rw [kcs_append,← kcs_length,List.take_left]
structure Rw (w : World) (B : Nat) (e : TypeId) (v : Value) (L : List α) : Prop where
 row : w.ownsRow B e 4 v L.length (kcs L)
theorem Rw.below {w w' : World} {B : Nat} {e : TypeId} {v : Value} {L : List α} (h : Rw w B e v L) (hB : Below w.heap.size w w') : Rw w' B e v L:=⟨pw_own_below h.row hB⟩
theorem Rw.slice {w : World} {B : Nat} {e : TypeId} {v : Value} {L : List α} (h : Rw w B e v L) : ∃ A c,v = .slice A L.length c:=own_slice h.row
theorem Rw.nil (w : World) (B : Nat) (e : TypeId) : Rw w B e (.slice none 0 0) ([] : List α):=⟨by simpa [kcs_nil] using own_nil w B e 4⟩
theorem Rw.lt {w : World} {B : Nat} {e : TypeId} {v : Value} {L : List α} (h : Rw w B e v L) {k : Nat} (hk : v.ownBlock = some k) : k < w.heap.size:=own_lt h.row k hk
theorem Rw.at_ {w : World} {B n c : Nat} {e : TypeId} {A : Option Addr} {L : List α} (h : Rw w B e (.slice A n c) L) (hn : 0 < L.length) : ∃ gr cur,A = some ⟨gr,0,none⟩∧B≤gr∧n = L.length∧w.heap[gr]? = some (.cells cur e (0,0))∧L.length≤c∧c≤maxLen∧cur.size = c * 4∧cur.toList.take (L.length * 4) = kcs L:=by
 rcases h.row.2 with ⟨h',h0⟩ | ⟨gr,cap,cur,h',hb,hg,q1,q2,q3,q4⟩
 ·have:=h.row.1
  rw [kcs_length] at this
  omega
 ·injection h' with h' h1 h2
  subst h2
  exact ⟨gr,cur,h',hb,h1,hg,q1,q2,q3,q4⟩
theorem take_cell {cur : Array Value} {xs : List Value} {m i : Nat} (h : cur.toList.take m = xs) (hi : i < m) : cur[i]? = xs[i]?:=by
 rw [← h,List.getElem?_take_of_lt hi,Array.getElem?_toList]
theorem Rw.cut {w : World} {B n c : Nat} {e : TypeId} {A : Option Addr} {S : List α} {g : α} (h : Rw w B e (.slice A n c) (S ++ [g])) : Rw w B e (.slice A S.length c) S:=by
 obtain ⟨gr,cur,rfl,hb,hn,hg,q1,q2,q3,q4⟩:=h.at_ (by simp)
 rw [List.length_append,List.length_singleton] at q1 q4
 refine ⟨by rw [kcs_length],.inr ⟨gr,c,cur,rfl,hb,hg,by omega,q2,q3,?_⟩⟩
 rw [← kcs_cut S g,← q4,List.take_take]
 congr 1
 omega
theorem Rw.append {P : Program} {ops : Array Oper} {rest : List Oper} {o : Oper} {a : Act} {Q : Exit→Act→World→Prop} {W : World} {B : Nat} (hgd : o.guard = none) (s x : Operand) (t e : TypeId) (z : Value) (bytes : Nat)
  (ho : o.op = .call { callee:=.builtin .append,args:=#[s,x],argTypes:=#[t,t] })
  (ht : P.underlying t = some (.slice e)) (hinfo : (P.info? e).map (fun i=>(i.zero,i.size,i.bytes)) = some (some z,4,bytes)) (hz : z.cells.size = 4) (hb0 : 0 < bytes)
  (v : Value) (L : List α) (y : α) (q : Nat) (hq : q = W.heap.size) (hs : a.eval s = v) (hx : a.eval x = .slice (some ⟨q,0,none⟩) 1 1)
  (HO : Rw W B e v L) (hbase : B≤W.heap.size) (hl : (L.length + 1) * bytes≤140737488355328)
  (h : ∀ v1 w1,Rw w1 B e v1 (L ++ [y])→W.grownBy w1 v.ownBlock→(v1.ownBlock = v.ownBlock∨∃ b,v1.ownBlock = some b∧W.heap.size≤b)→wpList P ops Q rest (a.put o.dst v1) w1) :
  wpList P ops Q (o :: rest) a (W.alloc (.cells (Enc4.enc y).toArray e)):=by
 subst hq
 obtain ⟨i0,hi,hzz⟩:=Option.map_eq_some_iff.1 hinfo
 simp only [Prod.mk.injEq] at hzz
 obtain ⟨hz0,hz1,hz2⟩:=hzz
 have hlen : L.length + 1≤140737488355328:=Nat.le_trans (Nat.le_mul_of_pos_right _ hb0) hl
 obtain ⟨v1,w1,hr,hown,hg,_,hat⟩:=run_append_own_at (P:=P) (W.alloc (.cells (Enc4.enc y).toArray e)) B t o.type e i0 z 4 bytes ht hi hz0 hz1 hz2 hz (by decide) v L.length (kcs L) (HO.row.alloc _) ⟨W.heap.size,0,none⟩ 1 1 (Enc4.enc y) (by rw [Enc4.len])
  (by simpa using World.news_of_block (cs:=(Enc4.enc y).toArray) (t:=e) (fr:=(0,0)) (heap_alloc_new W (.cells (Enc4.enc y).toArray e))) (Enc4.one y) (by simp only [maxLen]; omega) hl (by simp; omega)
 refine wpList_plain hgd fun K hK=>?_
 unfold Oper.wp execOp
 simp only [ho,resolve,invoke,builtin,Sem.run_bind,Sem.run_pure,Result.andThen_ok,List.map_toArray,List.map_cons,List.map_nil,hs,hx,hr]
 refine hK _ _ (h v1 w1 ⟨by rw [List.length_append,List.length_singleton,kcs_append,kcs_one]; exact hown⟩ (World.grownBy.trans (World.grownBy_alloc W _ _) hg) ?_)
 rcases hat with hat | hat
 ·exact .inl hat
 ·exact .inr ⟨_,hat,by simp⟩
end
instance : Enc4 Gp:=⟨fun g=>[.int .i64 g.co,.int .i64 g.fi,.int .i64 g.at_,.int .i64 g.ah],fun _=>rfl,fun x v hv=>by simp at hv; rcases hv with rfl | rfl | rfl | rfl <;> rfl⟩
theorem enc_gp (g : Gp) : Enc4.enc g = [.int .i64 g.co,.int .i64 g.fi,.int .i64 g.at_,.int .i64 g.ah]:=rfl
structure Fd where
 fi : Int
 ag : S80
instance : Inhabited Fd:=⟨⟨0,⟨0,0,0⟩⟩⟩
instance : Enc4 Fd:=⟨fun f=>[.int .i64 f.fi,.int .i64 f.ag.f0,.int .i64 f.ag.f1,.int .i64 f.ag.f2],fun _=>rfl,fun x v hv=>by simp at hv; rcases hv with rfl | rfl | rfl | rfl <;> rfl⟩
theorem enc_fd (f : Fd) : Enc4.enc f = [.int .i64 f.fi,.int .i64 f.ag.f0,.int .i64 f.ag.f1,.int .i64 f.ag.f2]:=rfl
theorem top_set (S : List Gp) (g : Gp) (m a : Int) : ((kcs (S ++ [g])).set (S.length * 4 + 2) (.int .i64 m)).set (S.length * 4 + 3) (.int .i64 a) = kcs (S ++ [(⟨g.co,g.fi,m,a⟩ : Gp)]):=by
 rw [kcs_append,kcs_append,kcs_one,kcs_one,List.set_append_right _ _ (by rw [kcs_length]; omega),List.set_append_right _ _ (by rw [kcs_length]; omega),kcs_length,Nat.add_sub_cancel_left,Nat.add_sub_cancel_left]
 rfl
end Go.Proofs.Ythcnnfahlhklgaa.X
