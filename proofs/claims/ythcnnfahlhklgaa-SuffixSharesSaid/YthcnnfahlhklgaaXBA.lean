/- By hand: marks, told by a number's bits; a row apart from another one's block, by their types. -/
import Derived.Test.YthcnnfahlhklgaaProg
import Derived.Test.YthcnnfahlhklgaaZMoreInvWordsWGuard0
namespace Go.Proofs.Ythcnnfahlhklgaa.X
open Go.RowKit Go.Proofs.YthcnnfahlhklgaaW.PrintWords Go.Proofs.YthcnnfahlhklgaaW.PrintLast Go.Proofs.YthcnnfahlhklgaaW.PrintMore
/-- Marks, told by a number's bits. -/
def bA (n v : Nat) : Array Bool := ((List.range n).map v.testBit).toArray
theorem gg_types {α β : Type} {d : Kd α} {d' : Kd β} {e e' : TypeId} {w : World} {base base' : Nat} {ok ok' : Nat → Prop} {v : Value} {xs : List α} {ys : List β} {g n c : Nat} (h : d.R e w base ok v xs) (h' : d'.R e' w base' ok' (.slice (some ⟨g, 0, none⟩) n c) ys) (ht : ∀ q, q ∈ e :: d.E → q ≠ e') : d.R e w base (fun k => ok k ∧ k ≠ g) v xs := by
  obtain ⟨cells, hc⟩ := Kd.R_typed h' g (by simp [Value.ownBlock])
  exact Kd.R_types h hc ht
/-! Short names, for printed texts that would be longer than a claim may be (wip/monoshort.py). -/
abbrev Qa := @Kd.R_alloc
abbrev Qb := @Kd.R_drewN
abbrev Qc := @Kd.R_drew
abbrev Qd := @Kd.C_alloc
abbrev Qe := @Kd.C_drewN
abbrev Qf := @Kd.C_drew
abbrev Qg := @below_alloc
abbrev Qh := @pw_below_drewN
abbrev Qi := @below_drew1
end Go.Proofs.Ythcnnfahlhklgaa.X
