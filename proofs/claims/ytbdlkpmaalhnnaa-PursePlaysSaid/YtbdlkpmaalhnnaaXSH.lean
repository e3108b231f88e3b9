/- By hand: a parameter that is a slice of structs of a bool, a string and a number, as a law's row reads it. -/
import Derived.Test.YtbdlkpmaalhnnaaXSG
import Derived.Deep.Slices
import Derived.Below
import Derived.WalkKit
import Derived.ProofKit
namespace Go.Proofs.Ytbdlkpmaalhnnaa
open Go Go.ChangeShapes Go.WideShapes Go.Deep Go.RowKit
/-- One call of a script. -/
structure Op where
  hold : Bool
  name : ByteArray
  n : Int
instance : Inhabited Op := ⟨⟨false, ⟨#[]⟩, 0⟩⟩
/-- A script in memory. -/
def OpsAt (w : World) (a : Option Addr) (l : List Op) : Prop := ∀ i, i < l.length → ∃ ad, a = some ad ∧ w.cell? (ad.add (i * 3)) = some (.bool (l.getD i default).hold) ∧ w.cell? (ad.add (i * 3 + 1)) = some (.string (l.getD i default).name) ∧ w.cell? (ad.add (i * 3 + 2)) = some (.int .i64 (l.getD i default).n) ∧ (l.getD i default).name.size ≤ maxLen
theorem OpsAt.below {w w' : World} {a : Option Addr} {l : List Op} (h : OpsAt w a l) (hB : Below w.heap.size w w') : OpsAt w' a l := fun i hi => by
  obtain ⟨ad, e, h0, h1, h2, h3⟩ := h i hi
  exact ⟨ad, e, (hB.cell (World.block_lt_of_cell? w _ h0)).trans h0, (hB.cell (World.block_lt_of_cell? w _ h1)).trans h1, (hB.cell (World.block_lt_of_cell? w _ h2)).trans h2, h3⟩
section
variable {H : Type} {enc : TypeId × Value → H} {P : Program} {w : World} {base : Nat} {spare : Nat → Bool} {held : Bool}
theorem open_ops {t e : TypeId} {f0 f1 f2 : Field} {fuel : Nat} {a : Option Addr} {len cap : Nat} {x : DataW H × List MemPlace} (ht : P.underlying t = some (.slice e)) (he : P.underlying e = some (.struct #[f0, f1, f2])) (h0 : P.underlying f0.type = some .bool) (h1 : P.underlying f1.type = some .string) (h2 : P.underlying f2.type = some (.int .i64))
    (ho0 : f0.offset = 0) (ho1 : f1.offset = 1) (ho2 : f2.offset = 2) (hc : P.cellsOf e = 3) (hc0 : P.cellsOf f0.type = 1) (hc1 : P.cellsOf f1.type = 1) (hc2 : P.cellsOf f2.type = 1) (hd : DataW.trod enc P w base spare held fuel t [.slice a len cap] = some x) :
    ∃ l : List Op, l.length = len ∧ len ≤ maxLen ∧ OpsAt w a l := by
  rcases open_slice ht hd with ⟨hcs, _⟩ | ⟨ad, len', cap', m, n, D, Pl, hcs, _, hl, hm, hmm, _, hx⟩
  · simp only [List.cons.injEq, Value.slice.injEq, and_true] at hcs
    obtain ⟨rfl, rfl, rfl⟩ := hcs
    exact ⟨[], rfl, Nat.zero_le _, fun i hi => absurd hi (by simp)⟩
  · simp only [List.cons.injEq, Value.slice.injEq, and_true] at hcs
    obtain ⟨rfl, rfl, rfl⟩ := hcs
    have hlm : len ≤ m := by rw [hmm]; split <;> omega
    obtain ⟨q, hq⟩ := choose_lt (α := Op) (p := fun i o => w.cell? (ad.add (i * 3)) = some (.bool o.hold) ∧ w.cell? (ad.add (i * 3 + 1)) = some (.string o.name) ∧ w.cell? (ad.add (i * 3 + 2)) = some (.int .i64 o.n) ∧ o.name.size ≤ maxLen) (n := len) (fun i hi => by
      obtain ⟨cs', g1, g2⟩ := hx i (by omega)
      rw [hc] at g1
      obtain ⟨_, hlen, hcell⟩ := World.cells?_some g1
      obtain ⟨y0, y1, y2, k, hxy, hl3, e0, e1, e2⟩ := trod_struct3 he g2
      rw [ho0, hc0] at e0
      rw [ho1, hc1] at e1
      rw [ho2, hc2] at e2
      obtain ⟨a0, ha, _⟩ := DataW.trod_bool h0 e0
      obtain ⟨b0, hb, _, hwb⟩ := DataW.trod_string h1 e1
      obtain ⟨c0, hcc, _, hwc⟩ := DataW.trod_int h2 e2
      match cs', hlen with
      | [v0, v1, v2], _ =>
        simp at ha hb hcc
        subst ha
        subst hb
        subst hcc
        have c0_ := hcell 0 (by omega)
        have c1_ := hcell 1 (by omega)
        have c2_ := hcell 2 (by omega)
        rw [add_add] at c0_ c1_ c2_
        exact ⟨⟨a0, b0, c0⟩, by simpa using c0_, by simpa using c1_, by simpa using c2_, hwb⟩)
    refine ⟨(List.range len).map q, by simp, by omega, fun i hi => ?_⟩
    have hi' : i < len := by simpa using hi
    have e : ((List.range len).map q).getD i default = q i := by simp [List.getD, hi']
    rw [e]
    exact ⟨ad, rfl, hq i hi'⟩
end
end Go.Proofs.Ytbdlkpmaalhnnaa
