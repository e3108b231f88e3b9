/- By hand: a row of bytes out of a constant, marked by its conversion: how it reads. -/
import Derived.Test.YthcnnfahlhklgaaXx0
import Derived.Lib.SlBytesConst
namespace Go.Proofs.Ythcnnfahlhklgaa.X
open Go.RowKit Go.Proofs.YthcnnfahlhklgaaW.PrintWords Go.Proofs.YthcnnfahlhklgaaW.PrintLast Go.Proofs.YthcnnfahlhklgaaW.PrintMore
theorem C_marked (w : World) (l : List Int) (e : Nat) (fr : Nat × Nat) (hl : l.length≤9223372036854775807) : Kd.C (Kd.int .u8) (w.alloc (.cells (l.map (Value.int .u8)).toArray e fr)) (some ⟨w.heap.size,0,none⟩) l.length l:=by
  refine ⟨rfl,hl,fun _=>⟨⟨w.heap.size,0,none⟩,rfl,fun j p hj=>⟨[.int .u8 p],rfl,rfl,fun i u hu=>?_⟩⟩⟩
  have hi : i = 0:=by
    have:=(List.getElem?_eq_some_iff.1 hu).1
    simpa using this
  subst hi
  have hu' : u = .int .u8 p:=by simpa using hu.symm
  subst hu'
  have hh : (w.alloc (.cells (l.map (Value.int .u8)).toArray e fr)).heap[w.heap.size]? = some (.cells (l.map (Value.int .u8)).toArray e fr):=by
    show (w.heap.push _)[w.heap.size]? = _
    simp
  have hc:=cell_of_row _ w.heap.size j _ e fr hh
  have hsz : (Kd.int .u8).sz = 1:=rfl
  rw [hsz,Nat.mul_one,Nat.add_zero]
  have ha : Addr.add ⟨w.heap.size,0,none⟩ j = ⟨w.heap.size,j,none⟩:=by
    simp [Addr.add]
    try omega
  rw [ha,hc]
  simp [hj]
end Go.Proofs.Ythcnnfahlhklgaa.X
