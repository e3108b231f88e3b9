/- By hand: what the printed walks of this seat lack: the builtin copy, told as a call is told. -/
import Derived.Test.YthcnnfahlhklgaaProg
import Derived.Laws.CopyOwn
import Derived.Test.YthcnnfahlhklgaaZMoreInvWordsWGuard0
namespace Go.Proofs.Ythcnnfahlhklgaa
open Go.RowKit Go.Proofs.YthcnnfahlhklgaaW.PrintWords Go.Proofs.YthcnnfahlhklgaaW.PrintLast Go.Proofs.YthcnnfahlhklgaaW.PrintMore
def copyR (P : Program) (dT sT ty : TypeId) (args : Array Value) (w : World) (R : Ending→World→Prop) : Prop :=
 ∃ v w',(Builtin.copy_ #[dT,sT] ty args).run P w = .ok v w'∧R (.returned v) w'

theorem copyR.mono {P : Program} {dT sT ty : TypeId} {args : Array Value} {w : World} {R R' : Ending→World→Prop}
  (h : copyR P dT sT ty args w R) (hr : ∀ e w',R e w'→R' e w') : copyR P dT sT ty args w R':=by
 obtain ⟨v,w',h1,h2⟩:=h
 exact ⟨v,w',h1,hr _ _ h2⟩

theorem goesCopy {P : Program} {ops : Array Oper} {rest : List Oper} {oi : Oper} {a : Act} {Q : Exit→Act→World→Prop} {w : World} (N : Option Tmp)
  (hd : oi.dst = N) (hg : oi.guard = none) {d s : Operand} {dT sT : TypeId}
  (hop : oi.op = .call { callee:=.builtin .copy,args:=#[d,s],argTypes:=#[dT,sT] }) (args : Array Value) (hargs : #[a.eval d,a.eval s] = args)
  (h : copyR P dT sT oi.type args w fun e w'=>∃ v,e = .returned v∧wpList P ops Q rest (a.put N v) w') : wpList P ops Q (oi :: rest) a w:=by
 obtain ⟨v,w',hrun,v',he,hk⟩:=h
 cases he
 refine wpList_plain hg fun K hK=>?_
 unfold Oper.wp
 subst hd hargs
 simp [execOp,hop,resolve,invoke,builtin,hrun,Result.andThen]
 exact hK _ _ hk
def cpy {α : Type} (d s : List α) : List α:=s.take d.length ++ d.drop s.length

theorem cpy_length {α : Type} (d s : List α) : (cpy d s).length = d.length:=by
 unfold cpy; rw [List.length_append,List.length_take,List.length_drop]; omega

theorem copyS {P : Program} {α : Type} {enc : α→Value} {h1 : ∀ x,(enc x).oneCell' = true} (dT sT ty e : TypeId) (hu : P.underlying dT = some (.slice e)) (hs : (P.info? e).map (·.size) = some 1)
  (P0_ : Nat→Prop) (u : Value) (l0 : List α) (A1 : Option Addr) (c1 : Nat) (l1 : List α) (w0 w : World) (hB : Below w0.heap.size w0 w)
  (ho0 : (Kd.scalar enc h1).R e w w0.heap.size P0_ u l0) (hr1 : (Kd.scalar enc h1).C w A1 l1.length l1) :
  copyR P dT sT ty #[u,.slice A1 l1.length c1] w fun e' w'=>e' = .returned (.int .i64 (Nat.min l1.length l0.length : Nat)) ∧
   (Kd.scalar enc h1).R e w' w0.heap.size (fun k_=>P0_ k_∨w.heap.size≤k_) u (cpy l0 l1)∧Below w0.heap.size w0 w'∧Kept w w' (fun k_=>P0_ k_):=by
 have ho:=Kd.own_of_R ho0
 obtain ⟨hlen,hcase⟩:=ho
 rcases hcase with ⟨rfl,h0⟩ | ⟨g,cap,cur,rfl,hg,hh,hnc,hcm,hcs,htk⟩
 ·have hl0 : l0 = []:=List.eq_nil_of_length_eq_zero h0
  subst hl0
  refine ⟨_,_,run_copy_none w dT sT ty e none A1 0 0 l1.length c1 hu hs (by simp),?_⟩
  refine ⟨by simp [goInt],?_,hB,Kept.refl w _⟩
  have : cpy ([] : List α) l1 = []:=by simp [cpy]
  rw [this]
  exact Kd.R_mono ho0 (fun _ hk=>.inl hk)
 ·by_cases hz : Nat.min l1.length l0.length = 0
  ·refine ⟨_,_,run_copy_none w dT sT ty e _ A1 l0.length cap l1.length c1 hu hs hz,?_⟩
   refine ⟨by rw [hz]; rfl,?_,hB,Kept.refl w _⟩
   have : cpy l0 l1 = l0:=by
    unfold cpy
    have hz' : l1.length = 0∨l0.length = 0:=by
     simp only [Nat.min_def] at hz; split at hz <;> omega
    rcases hz' with h | h
    ·have:=List.eq_nil_of_length_eq_zero h; subst this; simp
    ·have:=List.eq_nil_of_length_eq_zero h; subst this; simp
   rw [this]
   exact Kd.R_mono ho0 (fun _ hk=>.inl hk)
  ·have hmin : Nat.min l1.length l0.length = (l1.take l0.length).length:=by rw [List.length_take,Nat.min_comm]
   have hpos : 0 < l1.length:=by
    rcases Nat.eq_zero_or_pos l1.length with h | h
    ·exact absurd (by simp [h]) hz
    ·exact h
   obtain ⟨ad,rfl,hcell⟩:=hr1.2.2 hpos
   have hsrc : ∀ j v,(encs enc (l1.take l0.length))[j]? = some v→w.cell? (ad.add j) = some v:=by
    intro j v hj
    unfold encs at hj
    rw [List.getElem?_map] at hj
    cases hq : (l1.take l0.length)[j]? with
    | none=>rw [hq] at hj; simp at hj
    | some p =>
     rw [hq] at hj
     simp only [Option.map_some,Option.some.injEq] at hj
     have hq1 : l1[j]? = some p:=by
      rw [List.getElem?_take] at hq
      split at hq
      ·exact hq
      ·cases hq
     obtain ⟨c,hc1,hK,hcc⟩:=hcell j p hq1
     have hK' : c = [enc p]:=hK
     subst hK'
     have:=hcc 0 (enc p) rfl
     simpa [Kd.scalar,hj] using this
   have hfit : 0 + (encs enc (l1.take l0.length)).length≤cur.size:=by
    unfold encs
    rw [List.length_map,List.length_take,hcs]
    omega
   have hone : ∀ v ∈ encs enc (l1.take l0.length),v.oneCell' = true:=by
    intro v hv
    unfold encs at hv
    obtain ⟨x,_,rfl⟩:=List.mem_map.1 hv
    exact h1 x
   have hn : (encs enc (l1.take l0.length)).length = Nat.min l1.length l0.length:=by unfold encs; rw [List.length_map,hmin]
   have hrun:=run_copy_row (P:=P) w dT sT ty e g 0 l0.length cap ad l1.length c1 cur e (encs enc (l1.take l0.length)) hu hs hh hn hsrc hfit hone
   refine ⟨_,_,hrun,?_⟩
   have hset:=setRow_heap w g cur ((cur.toList.take 0 ++ encs enc (l1.take l0.length) ++ cur.toList.drop (0 + (encs enc (l1.take l0.length)).length)).toArray) e (0,0) hh
   have hP : P0_ g:=ho0.1 g (by simp [Value.ownBlock])
   refine ⟨by rw [hn]; rfl,?_,?_,?_⟩
   ·refine Kd.R_of_own ?_ (fun k hk=>.inl (ho0.1 k hk))
    rw [cpy_length]
    refine ⟨by simp [encs,cpy_length],.inr ⟨g,cap,_,rfl,hg,hset,hnc,hcm,?_,?_⟩⟩
    ·have e1 : (encs enc (l1.take l0.length)).length = min l0.length l1.length:=by unfold encs; simp
     simp only [List.take_zero,List.nil_append,Nat.zero_add,List.size_toArray,List.length_append,List.length_drop,Array.length_toList,Nat.mul_one,e1]
     rw [hcs]; omega
    ·simp only [List.take_zero,List.nil_append,Nat.zero_add,Nat.mul_one]
     have e1 : (encs enc (l1.take l0.length)).length = min l0.length l1.length:=by unfold encs; simp
     have e2 : encs enc (cpy l0 l1) = encs enc (l1.take l0.length) ++ (encs enc l0).drop l1.length:=by
      unfold encs cpy; rw [List.map_append,List.map_drop]
     rw [e2,List.take_append,e1]
     congr 1
     ·rw [List.take_of_length_le (by rw [e1]; omega)]
     ·by_cases h : l0.length≤l1.length
      ·rw [Nat.min_eq_left h,Nat.sub_self,List.take_zero,List.drop_eq_nil_of_le]
       unfold encs; rw [List.length_map]; exact h
      ·have h' : l1.length≤l0.length:=by omega
       rw [Nat.min_eq_right h',← htk,Nat.mul_one,List.drop_take]
   ·exact hB.trans (below_setRow (Below.refl _ _) (hg) _)
   ·refine ⟨by simp,fun i hi hs_=>?_⟩
    exact setRow_other w g i _ (fun e=>hs_ (by rw [e]; exact hP))
def copy_i64.f (l0 l1 : List Int) : Option (Int × List Int):=some ((Nat.min l1.length l0.length : Nat),cpy l0 l1)
theorem copy_i64.calls {ty : TypeId} (P0_ : Nat→Prop) (u9000_ : Value) (l0 : List Int) (A1 : Option Addr) (c1 : Nat) (l1 : List Int) (r1 : Int) (r2 : List Int) (w0 w : World) (hB : Below w0.heap.size w0 w)
  (ho0 : Kd.R (Kd.int .i64) 3 w w0.heap.size P0_ u9000_ l0) (hr1 : ∀ W_,Kept w W_ (fun k_=>P0_ k_)→Kd.C (Kd.int .i64) W_ A1 l1.length l1) (_hc1 : l1.length≤c1) (h : copy_i64.f l0 l1 = some (r1,r2)) :
  copyR Try.prog 34 34 ty #[u9000_,.slice A1 l1.length c1] w fun e w'=>e = .returned (.int .i64 r1)∧Kd.R (Kd.int .i64) 3 w' w0.heap.size (fun k_=>(P0_ k_∨w.heap.size≤k_)) u9000_ r2∧Below w0.heap.size w0 w'∧Kept w w' (fun k_=>P0_ k_):=by
 simp only [copy_i64.f,Option.some.injEq,Prod.mk.injEq] at h
 obtain ⟨rfl,rfl⟩:=h
 exact copyS 34 34 ty 3 Try.underlying34 (by kernel_rfl) P0_ u9000_ l0 A1 c1 l1 w0 w hB ho0 (hr1 w (Kept.refl w _))
end Go.Proofs.Ythcnnfahlhklgaa
