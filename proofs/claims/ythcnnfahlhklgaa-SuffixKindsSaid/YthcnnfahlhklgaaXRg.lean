/- By hand: what was found, sorted by the library. -/
import Derived.Test.YthcnnfahlhklgaaXRf
import Derived.Test.YthcnnfahlhklgaaZSF
namespace Go.Proofs.Ythcnnfahlhklgaa.X
open Go.RowKit Go.Proofs.YthcnnfahlhklgaaW.PrintWords Go.Proofs.YthcnnfahlhklgaaW.PrintLast Go.Proofs.YthcnnfahlhklgaaW.PrintMore
open Go.Sort
set_option linter.unusedVariables false
set_option linter.unusedSimpArgs false

theorem cmpF_lt (x y : Fd) : ltOf cmpF x y = true↔x.fi < y.fi∨(x.fi = y.fi∧x.ag.f1 < y.ag.f1):=by
 unfold ltOf cmpF orI cmpI
 rw [decide_eq_true_eq]
 by_cases a : x.fi < y.fi
 ·simp [a]
 ·by_cases b : y.fi < x.fi
  ·simp [a,b]; omega
  ·by_cases c : x.ag.f1 < y.ag.f1
   ·simp [a,b,c]; omega
   ·by_cases d : y.ag.f1 < x.ag.f1
    ·simp [a,b,c,d]
    ·simp [a,b,c,d]
theorem cmpF_swo : SWO (ltOf cmpF):=by
 have f : ∀ x y : Fd,ltOf cmpF x y = false↔¬ (x.fi < y.fi∨(x.fi = y.fi∧x.ag.f1 < y.ag.f1)):=fun x y=>by rw [← cmpF_lt,Bool.not_eq_true]
 refine ⟨fun x=>(f x x).2 (by omega),fun x y z h k=>(cmpF_lt x z).2 ?_,fun x y z h k=>(f x z).2 ?_⟩
 ·have h:=(cmpF_lt x y).1 h
  have k:=(cmpF_lt y z).1 k
  omega
 ·have h:=(f x y).1 h
  have k:=(f y z).1 k
  omega
theorem flat_list (L : List Fd) : (flatK Enc4.enc 4 L.toArray).toList = kcs L:=by
 apply List.ext_getElem?
 intro t
 by_cases ht : t < L.length * 4
 ·have e:=kcs_get (L:=L) (j:=t % 4) (Nat.mod_lt _ (by omega)) (k:=t / 4) (by omega)
  rw [show t / 4 * 4 + t % 4 = t by omega] at e
  rw [e,Array.getElem?_toList]
  have hg:=get_flatK (Enc4.enc (α:=Fd)) 4 L.toArray t (by simpa using ht)
  have hs : t < (flatK (Enc4.enc (α:=Fd)) 4 L.toArray).size:=by rw [size_flatK]; simpa using ht
  rw [Array.getElem?_eq_getElem hs]
  rw [getElem!_pos _ t hs] at hg
  rw [hg]
  have hk : t / 4 < L.length:=by omega
  have e1 : L.toArray[t / 4]! = L.getD (t / 4) default:=by
   rw [getElem!_pos _ _ (by simpa using hk)]
   simp [List.getD,hk]
  have hl : t % 4 < (Enc4.enc (L.getD (t / 4) default)).length:=by rw [Enc4.len]; omega
  rw [e1,getElem!_pos (Enc4.enc (L.getD (t / 4) default)) (t % 4) hl,List.getElem?_eq_getElem hl]
 ·rw [List.getElem?_eq_none (by rw [Array.length_toList,size_flatK]; simpa using ht),List.getElem?_eq_none (by rw [kcs_length]; omega)]
theorem isAgg101 : ∀ w,(isAgg 101).run Try.prog w = .ok true w:=fun w=>by kernel_rfl
theorem sizeOf101 : ∀ w,(Go.sizeOf 101).run Try.prog w = .ok 4 w:=fun w=>by kernel_rfl
theorem sort_found {w : World} {B : Nat} {v : Value} {L : List Fd} (h : Rw w B 101 v L) (hn : L.length < 4611686018427387904) : Calls Try.prog 60 #[v,.func (.func 61) #[] #[]] w fun e w'=>e = .returned (.tuple #[])∧(∃ L' : List Fd,L'.Perm L∧L'.Pairwise (fun x y=>ltOf cmpF y x = false)∧Rw w' B 101 v L')∧w.grownBy w' v.ownBlock:=by
 obtain ⟨A,c,rfl⟩:=h.slice
 by_cases hz : L = []
 ·subst hz
  refine (AnyF.slices_SortFunc_none (P:=Try.prog) (ρ:=Try.laySF_ren) { Try.laySF with } A c _ w).mono ?_
  rintro e w' ⟨rfl,rfl⟩
  exact ⟨rfl,⟨[],List.Perm.refl _,List.Pairwise.nil,h⟩,World.grownBy.refl w' _⟩
 ·obtain ⟨gr,cur,rfl,hB,_,hg,q1,q2,q3,q4⟩:=h.at_ (List.length_pos_iff.2 hz)
  have hH : HoldsK Enc4.enc 4 w gr 0 L.toArray:=by
   intro j hj
   rw [size_flatK] at hj
   have hj : j < L.length * 4:=by simpa using hj
   refine ⟨?_,by simp [World.frozen?,hg]⟩
   have e1 : (kcs L)[j]? = cur[j]?:=(take_cell q4 hj).symm
   rw [← flat_list L,Array.getElem?_toList] at e1
   have hs : j < (flatK (Enc4.enc (α:=Fd)) 4 L.toArray).size:=by rw [size_flatK]; simpa using hj
   rw [Array.getElem?_eq_getElem hs] at e1
   rw [getElem!_pos _ j hs]
   rw [Nat.zero_add,blk_cell hg,← e1]
   rfl
  have eg : ∀ args w,(callFunc 61 args).run Try.prog w = .ok (.enter 61 args) w:=enters_of Try.func61 (by kernel_rfl) rfl
  have hc:=AnyQ.slices_SortFunc (P:=Try.prog) (ρ:=Try.laySF_ren) Try.laySF 4 isAgg101 sizeOf101 (Enc4.enc (α:=Fd)) Enc4.len Enc4.one cmpF cmpF_swo 61 #[] gr 0 c L.toArray w eg (fun _ _ _ _ x y=>closure_ok x y) hH (blk_lt hg) (by simpa using hn)
  refine hc.mono ?_
  rintro e w' ⟨rfl,d',n,os,hp,hs,rfl⟩
  have hsz : d'.size = L.length:=by have:=hp.1; simpa using this
  have hpm : d'.toList.Perm L:=by
   have h2:=hp.2.2
   simp at h2
   rwa [List.take_of_length_le (by simp [hsz])] at h2
  refine ⟨rfl,⟨d'.toList,hpm,?_,⟨?_⟩⟩,?_⟩
  ·refine List.pairwise_iff_getElem.2 fun i j hi hj hij=>?_
   have:=hs i j (Nat.zero_le _) hij (by simpa [hsz] using hj)
   rw [getElem!_pos _ _ (by simpa using hj),getElem!_pos _ _ (by simpa using hi)] at this
   simpa using this
  ·have hl : d'.toList.length = L.length:=by simpa using hsz
   have hF : (flatK (Enc4.enc (α:=Fd)) 4 d').toList = kcs d'.toList:=by have:=flat_list d'.toList; simpa using this
   have hheap : (sortWorldK (Enc4.enc (α:=Fd)) 4 w gr 0 n d' os).heap[gr]? = some (.cells (putCells id 0 (flatK Enc4.enc 4 d') cur) 101 (0,0)):=by
    unfold sortWorldK putRowK
    rw [heap_grow_old _ _ (by simpa using blk_lt hg)]
    simp [putRow,mapBlock,Sort.ahead,Array.getElem?_modify,hg,onCells]
   rw [hl]
   refine ⟨by rw [kcs_length,hl],.inr ⟨gr,c,_,rfl,hB,hheap,q1,q2,by simp [putCells,q3],?_⟩⟩
   rw [← hF]
   apply List.ext_getElem?
   intro j
   by_cases hj : j < L.length * 4
   ·have hs : j < (flatK (Enc4.enc (α:=Fd)) 4 d').size:=by rw [size_flatK,hsz]; exact hj
    rw [List.getElem?_take_of_lt hj,Array.getElem?_toList,Array.getElem?_toList]
    simp [putCells,hsz,hj,show j < cur.size by rw [q3]; omega]
   ·rw [List.getElem?_take_eq_none (by omega),List.getElem?_eq_none (by rw [Array.length_toList,size_flatK,hsz]; omega)]
  ·refine ⟨rfl,rfl,rfl,by simp [sortWorldK,putRowK,putRow,mapBlock],fun k hk hne=>?_⟩
   unfold sortWorldK putRowK
   rw [heap_grow_old _ _ (by simpa using hk)]
   have : gr ≠ k:=fun e=>hne (by rw [e]; rfl)
   simp [putRow,mapBlock,Sort.ahead,Array.getElem?_modify,this]
end Go.Proofs.Ythcnnfahlhklgaa.X
