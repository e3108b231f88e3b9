/- By hand: marks, told by a number's bits; a row apart from another one's block, by their types. -/
import Derived.Test.YtphchkkicpnehaaProg
import Derived.Test.YtphchkkicpnehaaZMoreInvWordsWGuard0
namespace Go.Proofs.Ytphchkkicpnehaa.X
open Go.RowKit Go.Proofs.YtphchkkicpnehaaW.PrintWords Go.Proofs.YtphchkkicpnehaaW.PrintLast Go.Proofs.YtphchkkicpnehaaW.PrintMore
/-- Marks, told by a number's bits. -/
def bA (n v : Nat) : Array Bool := ((List.range n).map v.testBit).toArray
theorem gg_types {α β : Type} {d : Kd α} {d' : Kd β} {e e' : TypeId} {w : World} {base base' : Nat} {ok ok' : Nat → Prop} {v : Value} {xs : List α} {ys : List β} {g n c : Nat} (h : d.R e w base ok v xs) (h' : d'.R e' w base' ok' (.slice (some ⟨g, 0, none⟩) n c) ys) (ht : ∀ q, q ∈ e :: d.E → q ≠ e') : d.R e w base (fun k => ok k ∧ k ≠ g) v xs := by
  obtain ⟨cells, hc⟩ := Kd.R_typed h' g (by simp [Value.ownBlock])
  exact Kd.R_types h hc ht
end Go.Proofs.Ytphchkkicpnehaa.X
