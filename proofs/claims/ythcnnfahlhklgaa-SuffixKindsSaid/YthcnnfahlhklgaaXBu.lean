/- By hand: the builtin copy between two rows of bytes, told as a call is told. -/
import Derived.Test.YthcnnfahlhklgaaXB
namespace Go.Proofs.Ythcnnfahlhklgaa
open Go.RowKit Go.Proofs.YthcnnfahlhklgaaW.PrintWords Go.Proofs.YthcnnfahlhklgaaW.PrintLast Go.Proofs.YthcnnfahlhklgaaW.PrintMore
def copy_u8.f (l0 l1 : List Int) : Option (Int × List Int):=some ((Nat.min l1.length l0.length : Nat),cpy l0 l1)
theorem copy_u8.calls {ty : TypeId} (P0_ : Nat→Prop) (u9000_ : Value) (l0 : List Int) (A1 : Option Addr) (c1 : Nat) (l1 : List Int) (r1 : Int) (r2 : List Int) (w0 w : World) (hB : Below w0.heap.size w0 w)
    (ho0 : Kd.R (Kd.int .u8) 5 w w0.heap.size P0_ u9000_ l0) (hr1 : ∀ W_,Kept w W_ (fun k_=>P0_ k_)→Kd.C (Kd.int .u8) W_ A1 l1.length l1) (_hc1 : l1.length≤c1) (h : copy_u8.f l0 l1 = some (r1,r2)) :
    copyR Try.prog 23 23 ty #[u9000_,.slice A1 l1.length c1] w fun e w'=>e = .returned (.int .i64 r1)∧Kd.R (Kd.int .u8) 5 w' w0.heap.size (fun k_=>(P0_ k_∨w.heap.size≤k_)) u9000_ r2∧Below w0.heap.size w0 w'∧Kept w w' (fun k_=>P0_ k_):=by
  simp only [copy_u8.f,Option.some.injEq,Prod.mk.injEq] at h
  obtain ⟨rfl,rfl⟩:=h
  exact copyS 23 23 ty 5 Try.underlying23 (by kernel_rfl) P0_ u9000_ l0 A1 c1 l1 w0 w hB ho0 (hr1 w (Kept.refl w _))
end Go.Proofs.Ythcnnfahlhklgaa
