/-
  No cell of these rows narrows 'for every input' (looked for: loops, veiled, ifaces, maps, wideKeys, modest, calm, conditions, laid).
  DERIVED. THE GIVEN ROWS OF THIS SEAT. 10 by the template 'for every input the law returns true; each argument reads behind the call as it read before'; 0 by the template 'total and deterministic' (their statements: YtgnhangjacdfbaaTotals.lean).
  GIVEN WITH THE SEED: the statements are not yours to turn. If you find one false, say at which input.
  Laid BY PROGRAM, IN A SANDBOX (cutbox-rows.mjs): the forced cells as the released guide's own fill.sh prints them over the translation 3ffa044dbbe4bc5b… (all of the seat's roots in one cut). By AI agents, Wed Nov 11 2026. No macro, syntax, notation, axiom, sorry.
-/
import Derived.Test.YtgnhangjacdfbaaChecked
import GoSem.Claim
import GoSem.ClaimJoined
import GoSem.ClaimMapViews
import Derived.JoinedTies
import Derived.KernelRfl
namespace Go.Proofs.Ytgnhangjacdfbaa
/- THE CELL 'sum', in the pinned program and in every row, IS THE sha256 OF THE DUMP (.gsa) THAT YtgnhangjacdfbaaProg.lean LOADS. Nothing in Lean hashes anything: it is a label: what it is worth is what the hold of that sum in a sandbox is worth. -/
noncomputable def Try.pinned : Pinned := { name := "ytgnhangjacdfbaa", sum := "3ffa044dbbe4bc5b07c80a515c6b20d3411f2765090f3f4bb437d2a5bbe8c134", checked := Try.checked }
namespace Rows
def none {H : Type} : Left H := { results := [], args := [] }

/-- 'sapperlaw12.SaisNames': WHATEVER THE INPUT: true; the input reads as it did. -/
def saisNamesSpec : ChangeSpec := { name := "saisNames", fn := fun _ => fun
  | [] => { results := [.lit (.bool true)], args := [] }
  | _ => none }
def saisNamesRow : OpenClaim := { program := "ytgnhangjacdfbaa", sum := "3ffa044dbbe4bc5b07c80a515c6b20d3411f2765090f3f4bb437d2a5bbe8c134", func := "sapper/sapperlaw12.SaisNames", spec := "saisNames", recurses := true, apart := false }
def SaisNamesSaid : Prop := saisNamesRow.holds Try.pinned (OpenSpec.ofChange saisNamesSpec)

/-- ITS FALSE NEIGHBOUR: 'it returns false'. Refute it at one input. -/
def saisNamesWrong : ChangeSpec := { name := "saisNames", fn := fun _ => fun
  | [] => { results := [.lit (.bool false)], args := [] }
  | _ => none }
def SaisNamesWrongFalsely : Prop := saisNamesRow.holds Try.pinned (OpenSpec.ofChange saisNamesWrong)

/-- 'sapperlaw12.SaisTypes': WHATEVER THE INPUT: true; the input reads as it did. -/
def saisTypesSpec : ChangeSpec := { name := "saisTypes", fn := fun _ => fun
  | [d] => { results := [.lit (.bool true)], args := [d] }
  | _ => none }
def saisTypesRow : OpenClaim := { program := "ytgnhangjacdfbaa", sum := "3ffa044dbbe4bc5b07c80a515c6b20d3411f2765090f3f4bb437d2a5bbe8c134", func := "sapper/sapperlaw12.SaisTypes", spec := "saisTypes", recurses := true, apart := false }
def SaisTypesSaid : Prop := saisTypesRow.holds Try.pinned (OpenSpec.ofChange saisTypesSpec)

/-- ITS FALSE NEIGHBOUR: 'it returns false'. Refute it at one input. -/
def saisTypesWrong : ChangeSpec := { name := "saisTypes", fn := fun _ => fun
  | [d] => { results := [.lit (.bool false)], args := [d] }
  | _ => none }
def SaisTypesWrongFalsely : Prop := saisTypesRow.holds Try.pinned (OpenSpec.ofChange saisTypesWrong)

/-- 'sapperlaw12.SaisArrays': WHATEVER THE INPUT: true; the input reads as it did. -/
def saisArraysSpec : ChangeSpec := { name := "saisArrays", fn := fun _ => fun
  | [d1, d2] => { results := [.lit (.bool true)], args := [d1, d2] }
  | _ => none }
def saisArraysRow : OpenClaim := { program := "ytgnhangjacdfbaa", sum := "3ffa044dbbe4bc5b07c80a515c6b20d3411f2765090f3f4bb437d2a5bbe8c134", func := "sapper/sapperlaw12.SaisArrays", spec := "saisArrays", recurses := true, apart := false }
def SaisArraysSaid : Prop := saisArraysRow.holds Try.pinned (OpenSpec.ofChange saisArraysSpec)

/-- ITS FALSE NEIGHBOUR: 'it returns false'. Refute it at one input. -/
def saisArraysWrong : ChangeSpec := { name := "saisArrays", fn := fun _ => fun
  | [d1, d2] => { results := [.lit (.bool false)], args := [d1, d2] }
  | _ => none }
def SaisArraysWrongFalsely : Prop := saisArraysRow.holds Try.pinned (OpenSpec.ofChange saisArraysWrong)

/-- 'sapperlaw12.SaisOrder': WHATEVER THE INPUT: true; the input reads as it did. -/
def saisOrderSpec : ChangeSpec := { name := "saisOrder", fn := fun _ => fun
  | [d] => { results := [.lit (.bool true)], args := [d] }
  | _ => none }
def saisOrderRow : OpenClaim := { program := "ytgnhangjacdfbaa", sum := "3ffa044dbbe4bc5b07c80a515c6b20d3411f2765090f3f4bb437d2a5bbe8c134", func := "sapper/sapperlaw12.SaisOrder", spec := "saisOrder", recurses := true, apart := false }
def SaisOrderSaid : Prop := saisOrderRow.holds Try.pinned (OpenSpec.ofChange saisOrderSpec)

/-- ITS FALSE NEIGHBOUR: 'it returns false'. Refute it at one input. -/
def saisOrderWrong : ChangeSpec := { name := "saisOrder", fn := fun _ => fun
  | [d] => { results := [.lit (.bool false)], args := [d] }
  | _ => none }
def SaisOrderWrongFalsely : Prop := saisOrderRow.holds Try.pinned (OpenSpec.ofChange saisOrderWrong)

/-- 'sapperlaw12.SaisAlone': WHATEVER THE INPUT: true; the input reads as it did. -/
def saisAloneSpec : ChangeSpec := { name := "saisAlone", fn := fun _ => fun
  | [d1, d2] => { results := [.lit (.bool true)], args := [d1, d2] }
  | _ => none }
def saisAloneRow : OpenClaim := { program := "ytgnhangjacdfbaa", sum := "3ffa044dbbe4bc5b07c80a515c6b20d3411f2765090f3f4bb437d2a5bbe8c134", func := "sapper/sapperlaw12.SaisAlone", spec := "saisAlone", recurses := true, apart := false }
def SaisAloneSaid : Prop := saisAloneRow.holds Try.pinned (OpenSpec.ofChange saisAloneSpec)

/-- ITS FALSE NEIGHBOUR: 'it returns false'. Refute it at one input. -/
def saisAloneWrong : ChangeSpec := { name := "saisAlone", fn := fun _ => fun
  | [d1, d2] => { results := [.lit (.bool false)], args := [d1, d2] }
  | _ => none }
def SaisAloneWrongFalsely : Prop := saisAloneRow.holds Try.pinned (OpenSpec.ofChange saisAloneWrong)

/-- 'sapperlaw12.SaisBuckets': WHATEVER THE INPUT: true; the input reads as it did. -/
def saisBucketsSpec : ChangeSpec := { name := "saisBuckets", fn := fun _ => fun
  | [d1, d2] => { results := [.lit (.bool true)], args := [d1, d2] }
  | _ => none }
def saisBucketsRow : OpenClaim := { program := "ytgnhangjacdfbaa", sum := "3ffa044dbbe4bc5b07c80a515c6b20d3411f2765090f3f4bb437d2a5bbe8c134", func := "sapper/sapperlaw12.SaisBuckets", spec := "saisBuckets", recurses := true, apart := false }
def SaisBucketsSaid : Prop := saisBucketsRow.holds Try.pinned (OpenSpec.ofChange saisBucketsSpec)

/-- ITS FALSE NEIGHBOUR: 'it returns false'. Refute it at one input. -/
def saisBucketsWrong : ChangeSpec := { name := "saisBuckets", fn := fun _ => fun
  | [d1, d2] => { results := [.lit (.bool false)], args := [d1, d2] }
  | _ => none }
def SaisBucketsWrongFalsely : Prop := saisBucketsRow.holds Try.pinned (OpenSpec.ofChange saisBucketsWrong)

/-- 'sapperlaw12.SaisInduces': WHATEVER THE INPUT: true; the input reads as it did. -/
def saisInducesSpec : ChangeSpec := { name := "saisInduces", fn := fun _ => fun
  | [d] => { results := [.lit (.bool true)], args := [d] }
  | _ => none }
def saisInducesRow : OpenClaim := { program := "ytgnhangjacdfbaa", sum := "3ffa044dbbe4bc5b07c80a515c6b20d3411f2765090f3f4bb437d2a5bbe8c134", func := "sapper/sapperlaw12.SaisInduces", spec := "saisInduces", recurses := true, apart := false }
def SaisInducesSaid : Prop := saisInducesRow.holds Try.pinned (OpenSpec.ofChange saisInducesSpec)

/-- ITS FALSE NEIGHBOUR: 'it returns false'. Refute it at one input. -/
def saisInducesWrong : ChangeSpec := { name := "saisInduces", fn := fun _ => fun
  | [d] => { results := [.lit (.bool false)], args := [d] }
  | _ => none }
def SaisInducesWrongFalsely : Prop := saisInducesRow.holds Try.pinned (OpenSpec.ofChange saisInducesWrong)

/-- 'sapperlaw12.SaisInducing': WHATEVER THE INPUT: true; the input reads as it did. -/
def saisInducingSpec : ChangeSpec := { name := "saisInducing", fn := fun _ => fun
  | [d] => { results := [.lit (.bool true)], args := [d] }
  | _ => none }
def saisInducingRow : OpenClaim := { program := "ytgnhangjacdfbaa", sum := "3ffa044dbbe4bc5b07c80a515c6b20d3411f2765090f3f4bb437d2a5bbe8c134", func := "sapper/sapperlaw12.SaisInducing", spec := "saisInducing", recurses := true, apart := false }
def SaisInducingSaid : Prop := saisInducingRow.holds Try.pinned (OpenSpec.ofChange saisInducingSpec)

/-- ITS FALSE NEIGHBOUR: 'it returns false'. Refute it at one input. -/
def saisInducingWrong : ChangeSpec := { name := "saisInducing", fn := fun _ => fun
  | [d] => { results := [.lit (.bool false)], args := [d] }
  | _ => none }
def SaisInducingWrongFalsely : Prop := saisInducingRow.holds Try.pinned (OpenSpec.ofChange saisInducingWrong)

/-- 'sapperlaw12.SaisPieces': WHATEVER THE INPUT: true; the input reads as it did. -/
def saisPiecesSpec : ChangeSpec := { name := "saisPieces", fn := fun _ => fun
  | [d1, d2] => { results := [.lit (.bool true)], args := [d1, d2] }
  | _ => none }
def saisPiecesRow : OpenClaim := { program := "ytgnhangjacdfbaa", sum := "3ffa044dbbe4bc5b07c80a515c6b20d3411f2765090f3f4bb437d2a5bbe8c134", func := "sapper/sapperlaw12.SaisPieces", spec := "saisPieces", recurses := true, apart := false }
def SaisPiecesSaid : Prop := saisPiecesRow.holds Try.pinned (OpenSpec.ofChange saisPiecesSpec)

/-- ITS FALSE NEIGHBOUR: 'it returns false'. Refute it at one input. -/
def saisPiecesWrong : ChangeSpec := { name := "saisPieces", fn := fun _ => fun
  | [d1, d2] => { results := [.lit (.bool false)], args := [d1, d2] }
  | _ => none }
def SaisPiecesWrongFalsely : Prop := saisPiecesRow.holds Try.pinned (OpenSpec.ofChange saisPiecesWrong)

/-- 'sapperlaw12.SaisRefuses': WHATEVER THE INPUT: true; the input reads as it did. -/
def saisRefusesSpec : ChangeSpec := { name := "saisRefuses", fn := fun _ => fun
  | [d1, d2] => { results := [.lit (.bool true)], args := [d1, d2] }
  | _ => none }
def saisRefusesRow : OpenClaim := { program := "ytgnhangjacdfbaa", sum := "3ffa044dbbe4bc5b07c80a515c6b20d3411f2765090f3f4bb437d2a5bbe8c134", func := "sapper/sapperlaw12.SaisRefuses", spec := "saisRefuses", recurses := true, apart := false }
def SaisRefusesSaid : Prop := saisRefusesRow.holds Try.pinned (OpenSpec.ofChange saisRefusesSpec)

/-- ITS FALSE NEIGHBOUR: 'it returns false'. Refute it at one input. -/
def saisRefusesWrong : ChangeSpec := { name := "saisRefuses", fn := fun _ => fun
  | [d1, d2] => { results := [.lit (.bool false)], args := [d1, d2] }
  | _ => none }
def SaisRefusesWrongFalsely : Prop := saisRefusesRow.holds Try.pinned (OpenSpec.ofChange saisRefusesWrong)

/- THE SECOND FORM. 'bulk': how many values and letters a reading holds, each counted each time it is reached (what is shared counts as often as it is met; a slice's spare places count too). A statement '..UptoSaid' is the law's where the arguments, and the package variables that the reading takes, are together of bulk at most 1048576: NARROWER than '..Said'. Prove '..Said' where nothing that the law and all that it calls make is longer than what came in: it says more and counts as full. Else prove '..UptoSaid'. A law counts once. -/
mutual
def uptoBulk {H : Type} : DataW H → Nat
  | .lit (.string bytes) => bytes.length + 1
  | .lit _ => 1
  | .nil => 1
  | .ptr d => uptoBulk d + 1
  | .slice elems spare => uptoBulkAll elems + uptoBulkAll spare + 1
  | .agg parts => uptoBulkAll parts + 1
  | .iface _ d => uptoBulk d + 1
  | .map entries => uptoBulkEntries entries + 1
  | .held _ => 1
def uptoBulkAll {H : Type} : List (DataW H) → Nat
  | [] => 0
  | d :: r => uptoBulk d + uptoBulkAll r
def uptoBulkEntries {H : Type} : List (Lit × DataW H) → Nat
  | [] => 0
  | x :: r => uptoBulkEntry x + uptoBulkEntries r
def uptoBulkEntry {H : Type} : Lit × DataW H → Nat
  | (.string bytes, d) => bytes.length + uptoBulk d + 1
  | (_, d) => uptoBulk d + 1
 end
def uptoSmall : (H : Type) → List (DataW H) → Bool := fun _ ds => decide (uptoBulkAll ds ≤ 1048576)
def OpenSpec.upto (s : _root_.Go.ChangeSpec) : _root_.Go.OpenSpec := { _root_.Go.OpenSpec.ofChange s with cond := some uptoSmall }

/-- 'sapperlaw12.SaisNames', WHERE WHAT IT READS IS OF BULK AT MOST 1048576: true; the input reads as it did. -/
def saisNamesUptoRow : OpenClaim := { program := "ytgnhangjacdfbaa", sum := "3ffa044dbbe4bc5b07c80a515c6b20d3411f2765090f3f4bb437d2a5bbe8c134", func := "sapper/sapperlaw12.SaisNames", spec := "saisNames", recurses := true, apart := false, narrowed := true }
def SaisNamesUptoSaid : Prop := saisNamesUptoRow.holds Try.pinned (OpenSpec.upto saisNamesSpec)

/-- 'sapperlaw12.SaisTypes', WHERE WHAT IT READS IS OF BULK AT MOST 1048576: true; the input reads as it did. -/
def saisTypesUptoRow : OpenClaim := { program := "ytgnhangjacdfbaa", sum := "3ffa044dbbe4bc5b07c80a515c6b20d3411f2765090f3f4bb437d2a5bbe8c134", func := "sapper/sapperlaw12.SaisTypes", spec := "saisTypes", recurses := true, apart := false, narrowed := true }
def SaisTypesUptoSaid : Prop := saisTypesUptoRow.holds Try.pinned (OpenSpec.upto saisTypesSpec)

/-- 'sapperlaw12.SaisArrays', WHERE WHAT IT READS IS OF BULK AT MOST 1048576: true; the input reads as it did. -/
def saisArraysUptoRow : OpenClaim := { program := "ytgnhangjacdfbaa", sum := "3ffa044dbbe4bc5b07c80a515c6b20d3411f2765090f3f4bb437d2a5bbe8c134", func := "sapper/sapperlaw12.SaisArrays", spec := "saisArrays", recurses := true, apart := false, narrowed := true }
def SaisArraysUptoSaid : Prop := saisArraysUptoRow.holds Try.pinned (OpenSpec.upto saisArraysSpec)

/-- 'sapperlaw12.SaisOrder', WHERE WHAT IT READS IS OF BULK AT MOST 1048576: true; the input reads as it did. -/
def saisOrderUptoRow : OpenClaim := { program := "ytgnhangjacdfbaa", sum := "3ffa044dbbe4bc5b07c80a515c6b20d3411f2765090f3f4bb437d2a5bbe8c134", func := "sapper/sapperlaw12.SaisOrder", spec := "saisOrder", recurses := true, apart := false, narrowed := true }
def SaisOrderUptoSaid : Prop := saisOrderUptoRow.holds Try.pinned (OpenSpec.upto saisOrderSpec)

/-- 'sapperlaw12.SaisAlone', WHERE WHAT IT READS IS OF BULK AT MOST 1048576: true; the input reads as it did. -/
def saisAloneUptoRow : OpenClaim := { program := "ytgnhangjacdfbaa", sum := "3ffa044dbbe4bc5b07c80a515c6b20d3411f2765090f3f4bb437d2a5bbe8c134", func := "sapper/sapperlaw12.SaisAlone", spec := "saisAlone", recurses := true, apart := false, narrowed := true }
def SaisAloneUptoSaid : Prop := saisAloneUptoRow.holds Try.pinned (OpenSpec.upto saisAloneSpec)

/-- 'sapperlaw12.SaisBuckets', WHERE WHAT IT READS IS OF BULK AT MOST 1048576: true; the input reads as it did. -/
def saisBucketsUptoRow : OpenClaim := { program := "ytgnhangjacdfbaa", sum := "3ffa044dbbe4bc5b07c80a515c6b20d3411f2765090f3f4bb437d2a5bbe8c134", func := "sapper/sapperlaw12.SaisBuckets", spec := "saisBuckets", recurses := true, apart := false, narrowed := true }
def SaisBucketsUptoSaid : Prop := saisBucketsUptoRow.holds Try.pinned (OpenSpec.upto saisBucketsSpec)

/-- 'sapperlaw12.SaisInduces', WHERE WHAT IT READS IS OF BULK AT MOST 1048576: true; the input reads as it did. -/
def saisInducesUptoRow : OpenClaim := { program := "ytgnhangjacdfbaa", sum := "3ffa044dbbe4bc5b07c80a515c6b20d3411f2765090f3f4bb437d2a5bbe8c134", func := "sapper/sapperlaw12.SaisInduces", spec := "saisInduces", recurses := true, apart := false, narrowed := true }
def SaisInducesUptoSaid : Prop := saisInducesUptoRow.holds Try.pinned (OpenSpec.upto saisInducesSpec)

/-- 'sapperlaw12.SaisInducing', WHERE WHAT IT READS IS OF BULK AT MOST 1048576: true; the input reads as it did. -/
def saisInducingUptoRow : OpenClaim := { program := "ytgnhangjacdfbaa", sum := "3ffa044dbbe4bc5b07c80a515c6b20d3411f2765090f3f4bb437d2a5bbe8c134", func := "sapper/sapperlaw12.SaisInducing", spec := "saisInducing", recurses := true, apart := false, narrowed := true }
def SaisInducingUptoSaid : Prop := saisInducingUptoRow.holds Try.pinned (OpenSpec.upto saisInducingSpec)

/-- 'sapperlaw12.SaisPieces', WHERE WHAT IT READS IS OF BULK AT MOST 1048576: true; the input reads as it did. -/
def saisPiecesUptoRow : OpenClaim := { program := "ytgnhangjacdfbaa", sum := "3ffa044dbbe4bc5b07c80a515c6b20d3411f2765090f3f4bb437d2a5bbe8c134", func := "sapper/sapperlaw12.SaisPieces", spec := "saisPieces", recurses := true, apart := false, narrowed := true }
def SaisPiecesUptoSaid : Prop := saisPiecesUptoRow.holds Try.pinned (OpenSpec.upto saisPiecesSpec)

/-- 'sapperlaw12.SaisRefuses', WHERE WHAT IT READS IS OF BULK AT MOST 1048576: true; the input reads as it did. -/
def saisRefusesUptoRow : OpenClaim := { program := "ytgnhangjacdfbaa", sum := "3ffa044dbbe4bc5b07c80a515c6b20d3411f2765090f3f4bb437d2a5bbe8c134", func := "sapper/sapperlaw12.SaisRefuses", spec := "saisRefuses", recurses := true, apart := false, narrowed := true }
def SaisRefusesUptoSaid : Prop := saisRefusesUptoRow.holds Try.pinned (OpenSpec.upto saisRefusesSpec)

end Rows
end Go.Proofs.Ytgnhangjacdfbaa
