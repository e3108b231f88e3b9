/-
  No cell of these rows narrows 'for every input' (looked for: loops, veiled, ifaces, maps, wideKeys, modest, calm, conditions, laid).
  DERIVED. THE GIVEN ROWS OF THIS SEAT. 12 by the template 'for every input the law returns true; each argument reads behind the call as it read before'; 0 by the template 'total and deterministic' (their statements: YthcnnfahlhklgaaTotals.lean).
  GIVEN WITH THE SEED: the statements are not yours to turn. If you find one false, say at which input.
  Laid BY PROGRAM, IN A SANDBOX (cutbox-rows.mjs): the forced cells as the released guide's own fill.sh prints them over the translation 81342198bfc9496e… (all of the seat's roots in one cut). By AI agents, Wed Nov 11 2026. No macro, syntax, notation, axiom, sorry.
-/
import Derived.Test.YthcnnfahlhklgaaChecked
import GoSem.Claim
import GoSem.ClaimJoined
import GoSem.ClaimMapViews
import Derived.JoinedTies
import Derived.KernelRfl
namespace Go.Proofs.Ythcnnfahlhklgaa
/- THE CELL 'sum', in the pinned program and in every row, IS THE sha256 OF THE DUMP (.gsa) THAT YthcnnfahlhklgaaProg.lean LOADS. Nothing in Lean hashes anything: it is a label: what it is worth is what the hold of that sum in a sandbox is worth. -/
noncomputable def Try.pinned : Pinned := { name := "ythcnnfahlhklgaa", sum := "81342198bfc9496e76163bf8ff07f634c89bccba7a0333878d7eefe7c6ad65b4", checked := Try.checked }
namespace Rows
def none {H : Type} : Left H := { results := [], args := [] }

/-- 'sapperlaw13.SuffixNames': WHATEVER THE INPUT: true; the input reads as it did. -/
def suffixNamesSpec : ChangeSpec := { name := "suffixNames", fn := fun _ => fun
  | [] => { results := [.lit (.bool true)], args := [] }
  | _ => none }
def suffixNamesRow : OpenClaim := { program := "ythcnnfahlhklgaa", sum := "81342198bfc9496e76163bf8ff07f634c89bccba7a0333878d7eefe7c6ad65b4", func := "sapper/sapperlaw13.SuffixNames", spec := "suffixNames", recurses := true, apart := false }
def SuffixNamesSaid : Prop := suffixNamesRow.holds Try.pinned (OpenSpec.ofChange suffixNamesSpec)

/-- ITS FALSE NEIGHBOUR: 'it returns false'. Refute it at one input. -/
def suffixNamesWrong : ChangeSpec := { name := "suffixNames", fn := fun _ => fun
  | [] => { results := [.lit (.bool false)], args := [] }
  | _ => none }
def SuffixNamesWrongFalsely : Prop := suffixNamesRow.holds Try.pinned (OpenSpec.ofChange suffixNamesWrong)

/-- 'sapperlaw13.SuffixCommons': WHATEVER THE INPUT: true; the input reads as it did. -/
def suffixCommonsSpec : ChangeSpec := { name := "suffixCommons", fn := fun _ => fun
  | [d1, d2, d3] => { results := [.lit (.bool true)], args := [d1, d2, d3] }
  | _ => none }
def suffixCommonsRow : OpenClaim := { program := "ythcnnfahlhklgaa", sum := "81342198bfc9496e76163bf8ff07f634c89bccba7a0333878d7eefe7c6ad65b4", func := "sapper/sapperlaw13.SuffixCommons", spec := "suffixCommons", recurses := true, apart := false }
def SuffixCommonsSaid : Prop := suffixCommonsRow.holds Try.pinned (OpenSpec.ofChange suffixCommonsSpec)

/-- ITS FALSE NEIGHBOUR: 'it returns false'. Refute it at one input. -/
def suffixCommonsWrong : ChangeSpec := { name := "suffixCommons", fn := fun _ => fun
  | [d1, d2, d3] => { results := [.lit (.bool false)], args := [d1, d2, d3] }
  | _ => none }
def SuffixCommonsWrongFalsely : Prop := suffixCommonsRow.holds Try.pinned (OpenSpec.ofChange suffixCommonsWrong)

/-- 'sapperlaw13.SuffixSteps': WHATEVER THE INPUT: true; the input reads as it did. -/
def suffixStepsSpec : ChangeSpec := { name := "suffixSteps", fn := fun _ => fun
  | [d] => { results := [.lit (.bool true)], args := [d] }
  | _ => none }
def suffixStepsRow : OpenClaim := { program := "ythcnnfahlhklgaa", sum := "81342198bfc9496e76163bf8ff07f634c89bccba7a0333878d7eefe7c6ad65b4", func := "sapper/sapperlaw13.SuffixSteps", spec := "suffixSteps", recurses := true, apart := false }
def SuffixStepsSaid : Prop := suffixStepsRow.holds Try.pinned (OpenSpec.ofChange suffixStepsSpec)

/-- ITS FALSE NEIGHBOUR: 'it returns false'. Refute it at one input. -/
def suffixStepsWrong : ChangeSpec := { name := "suffixSteps", fn := fun _ => fun
  | [d] => { results := [.lit (.bool false)], args := [d] }
  | _ => none }
def SuffixStepsWrongFalsely : Prop := suffixStepsRow.holds Try.pinned (OpenSpec.ofChange suffixStepsWrong)

/-- 'sapperlaw13.SuffixLeast': WHATEVER THE INPUT: true; the input reads as it did. -/
def suffixLeastSpec : ChangeSpec := { name := "suffixLeast", fn := fun _ => fun
  | [d1, d2, d3] => { results := [.lit (.bool true)], args := [d1, d2, d3] }
  | _ => none }
def suffixLeastRow : OpenClaim := { program := "ythcnnfahlhklgaa", sum := "81342198bfc9496e76163bf8ff07f634c89bccba7a0333878d7eefe7c6ad65b4", func := "sapper/sapperlaw13.SuffixLeast", spec := "suffixLeast", recurses := true, apart := false }
def SuffixLeastSaid : Prop := suffixLeastRow.holds Try.pinned (OpenSpec.ofChange suffixLeastSpec)

/-- ITS FALSE NEIGHBOUR: 'it returns false'. Refute it at one input. -/
def suffixLeastWrong : ChangeSpec := { name := "suffixLeast", fn := fun _ => fun
  | [d1, d2, d3] => { results := [.lit (.bool false)], args := [d1, d2, d3] }
  | _ => none }
def SuffixLeastWrongFalsely : Prop := suffixLeastRow.holds Try.pinned (OpenSpec.ofChange suffixLeastWrong)

/-- 'sapperlaw13.SuffixChecks': WHATEVER THE INPUT: true; the input reads as it did. -/
def suffixChecksSpec : ChangeSpec := { name := "suffixChecks", fn := fun _ => fun
  | [d1, d2] => { results := [.lit (.bool true)], args := [d1, d2] }
  | _ => none }
def suffixChecksRow : OpenClaim := { program := "ythcnnfahlhklgaa", sum := "81342198bfc9496e76163bf8ff07f634c89bccba7a0333878d7eefe7c6ad65b4", func := "sapper/sapperlaw13.SuffixChecks", spec := "suffixChecks", recurses := true, apart := false }
def SuffixChecksSaid : Prop := suffixChecksRow.holds Try.pinned (OpenSpec.ofChange suffixChecksSpec)

/-- ITS FALSE NEIGHBOUR: 'it returns false'. Refute it at one input. -/
def suffixChecksWrong : ChangeSpec := { name := "suffixChecks", fn := fun _ => fun
  | [d1, d2] => { results := [.lit (.bool false)], args := [d1, d2] }
  | _ => none }
def SuffixChecksWrongFalsely : Prop := suffixChecksRow.holds Try.pinned (OpenSpec.ofChange suffixChecksWrong)

/-- 'sapperlaw13.SuffixOrders': WHATEVER THE INPUT: true; the input reads as it did. -/
def suffixOrdersSpec : ChangeSpec := { name := "suffixOrders", fn := fun _ => fun
  | [d] => { results := [.lit (.bool true)], args := [d] }
  | _ => none }
def suffixOrdersRow : OpenClaim := { program := "ythcnnfahlhklgaa", sum := "81342198bfc9496e76163bf8ff07f634c89bccba7a0333878d7eefe7c6ad65b4", func := "sapper/sapperlaw13.SuffixOrders", spec := "suffixOrders", recurses := true, apart := false }
def SuffixOrdersSaid : Prop := suffixOrdersRow.holds Try.pinned (OpenSpec.ofChange suffixOrdersSpec)

/-- ITS FALSE NEIGHBOUR: 'it returns false'. Refute it at one input. -/
def suffixOrdersWrong : ChangeSpec := { name := "suffixOrders", fn := fun _ => fun
  | [d] => { results := [.lit (.bool false)], args := [d] }
  | _ => none }
def SuffixOrdersWrongFalsely : Prop := suffixOrdersRow.holds Try.pinned (OpenSpec.ofChange suffixOrdersWrong)

/-- 'sapperlaw13.SuffixTurns': WHATEVER THE INPUT: true; the input reads as it did. -/
def suffixTurnsSpec : ChangeSpec := { name := "suffixTurns", fn := fun _ => fun
  | [d1, d2, d3] => { results := [.lit (.bool true)], args := [d1, d2, d3] }
  | _ => none }
def suffixTurnsRow : OpenClaim := { program := "ythcnnfahlhklgaa", sum := "81342198bfc9496e76163bf8ff07f634c89bccba7a0333878d7eefe7c6ad65b4", func := "sapper/sapperlaw13.SuffixTurns", spec := "suffixTurns", recurses := true, apart := false }
def SuffixTurnsSaid : Prop := suffixTurnsRow.holds Try.pinned (OpenSpec.ofChange suffixTurnsSpec)

/-- ITS FALSE NEIGHBOUR: 'it returns false'. Refute it at one input. -/
def suffixTurnsWrong : ChangeSpec := { name := "suffixTurns", fn := fun _ => fun
  | [d1, d2, d3] => { results := [.lit (.bool false)], args := [d1, d2, d3] }
  | _ => none }
def SuffixTurnsWrongFalsely : Prop := suffixTurnsRow.holds Try.pinned (OpenSpec.ofChange suffixTurnsWrong)

/-- 'sapperlaw13.SuffixBack': WHATEVER THE INPUT: true; the input reads as it did. -/
def suffixBackSpec : ChangeSpec := { name := "suffixBack", fn := fun _ => fun
  | [d1, d2, d3] => { results := [.lit (.bool true)], args := [d1, d2, d3] }
  | _ => none }
def suffixBackRow : OpenClaim := { program := "ythcnnfahlhklgaa", sum := "81342198bfc9496e76163bf8ff07f634c89bccba7a0333878d7eefe7c6ad65b4", func := "sapper/sapperlaw13.SuffixBack", spec := "suffixBack", recurses := true, apart := false }
def SuffixBackSaid : Prop := suffixBackRow.holds Try.pinned (OpenSpec.ofChange suffixBackSpec)

/-- ITS FALSE NEIGHBOUR: 'it returns false'. Refute it at one input. -/
def suffixBackWrong : ChangeSpec := { name := "suffixBack", fn := fun _ => fun
  | [d1, d2, d3] => { results := [.lit (.bool false)], args := [d1, d2, d3] }
  | _ => none }
def SuffixBackWrongFalsely : Prop := suffixBackRow.holds Try.pinned (OpenSpec.ofChange suffixBackWrong)

/-- 'sapperlaw13.SuffixIndexes': WHATEVER THE INPUT: true; the input reads as it did. -/
def suffixIndexesSpec : ChangeSpec := { name := "suffixIndexes", fn := fun _ => fun
  | [d1, d2, d3] => { results := [.lit (.bool true)], args := [d1, d2, d3] }
  | _ => none }
def suffixIndexesRow : OpenClaim := { program := "ythcnnfahlhklgaa", sum := "81342198bfc9496e76163bf8ff07f634c89bccba7a0333878d7eefe7c6ad65b4", func := "sapper/sapperlaw13.SuffixIndexes", spec := "suffixIndexes", unfollowed := true, recurses := true, apart := false }
def SuffixIndexesSaid : Prop := suffixIndexesRow.holds Try.pinned (OpenSpec.ofChange suffixIndexesSpec)

/-- ITS FALSE NEIGHBOUR: 'it returns false'. Refute it at one input. -/
def suffixIndexesWrong : ChangeSpec := { name := "suffixIndexes", fn := fun _ => fun
  | [d1, d2, d3] => { results := [.lit (.bool false)], args := [d1, d2, d3] }
  | _ => none }
def SuffixIndexesWrongFalsely : Prop := suffixIndexesRow.holds Try.pinned (OpenSpec.ofChange suffixIndexesWrong)

/-- 'sapperlaw13.SuffixShares': WHATEVER THE INPUT: true; the input reads as it did. -/
def suffixSharesSpec : ChangeSpec := { name := "suffixShares", fn := fun _ => fun
  | [d1, d2] => { results := [.lit (.bool true)], args := [d1, d2] }
  | _ => none }
def suffixSharesRow : OpenClaim := { program := "ythcnnfahlhklgaa", sum := "81342198bfc9496e76163bf8ff07f634c89bccba7a0333878d7eefe7c6ad65b4", func := "sapper/sapperlaw13.SuffixShares", spec := "suffixShares", unfollowed := true, recurses := true, apart := false }
def SuffixSharesSaid : Prop := suffixSharesRow.holds Try.pinned (OpenSpec.ofChange suffixSharesSpec)

/-- ITS FALSE NEIGHBOUR: 'it returns false'. Refute it at one input. -/
def suffixSharesWrong : ChangeSpec := { name := "suffixShares", fn := fun _ => fun
  | [d1, d2] => { results := [.lit (.bool false)], args := [d1, d2] }
  | _ => none }
def SuffixSharesWrongFalsely : Prop := suffixSharesRow.holds Try.pinned (OpenSpec.ofChange suffixSharesWrong)

/-- 'sapperlaw13.SuffixKinds': WHATEVER THE INPUT: true; the input reads as it did. -/
def suffixKindsSpec : ChangeSpec := { name := "suffixKinds", fn := fun _ => fun
  | [d1, d2, d3] => { results := [.lit (.bool true)], args := [d1, d2, d3] }
  | _ => none }
def suffixKindsRow : OpenClaim := { program := "ythcnnfahlhklgaa", sum := "81342198bfc9496e76163bf8ff07f634c89bccba7a0333878d7eefe7c6ad65b4", func := "sapper/sapperlaw13.SuffixKinds", spec := "suffixKinds", unfollowed := true, recurses := true, apart := false }
def SuffixKindsSaid : Prop := suffixKindsRow.holds Try.pinned (OpenSpec.ofChange suffixKindsSpec)

/-- ITS FALSE NEIGHBOUR: 'it returns false'. Refute it at one input. -/
def suffixKindsWrong : ChangeSpec := { name := "suffixKinds", fn := fun _ => fun
  | [d1, d2, d3] => { results := [.lit (.bool false)], args := [d1, d2, d3] }
  | _ => none }
def SuffixKindsWrongFalsely : Prop := suffixKindsRow.holds Try.pinned (OpenSpec.ofChange suffixKindsWrong)

/-- 'sapperlaw13.SuffixMade': WHATEVER THE INPUT: true; the input reads as it did. -/
def suffixMadeSpec : ChangeSpec := { name := "suffixMade", fn := fun _ => fun
  | [d1, d2] => { results := [.lit (.bool true)], args := [d1, d2] }
  | _ => none }
def suffixMadeRow : OpenClaim := { program := "ythcnnfahlhklgaa", sum := "81342198bfc9496e76163bf8ff07f634c89bccba7a0333878d7eefe7c6ad65b4", func := "sapper/sapperlaw13.SuffixMade", spec := "suffixMade", unfollowed := true, recurses := true, apart := false }
def SuffixMadeSaid : Prop := suffixMadeRow.holds Try.pinned (OpenSpec.ofChange suffixMadeSpec)

/-- ITS FALSE NEIGHBOUR: 'it returns false'. Refute it at one input. -/
def suffixMadeWrong : ChangeSpec := { name := "suffixMade", fn := fun _ => fun
  | [d1, d2] => { results := [.lit (.bool false)], args := [d1, d2] }
  | _ => none }
def SuffixMadeWrongFalsely : Prop := suffixMadeRow.holds Try.pinned (OpenSpec.ofChange suffixMadeWrong)

/- THE SECOND FORM. 'bulk': how many values and letters a reading holds, each counted each time it is reached (what is shared counts as often as it is met; a slice's spare places count too). A statement '..UptoSaid' is the law's where the arguments, and the package variables that the reading takes, are together of bulk at most 1048576: NARROWER than '..Said'. Prove '..Said' where nothing that the law and all that it calls make is longer than what came in: it says more and counts as full. Else prove '..UptoSaid'. A law counts once. -/
mutual
def uptoBulk {H : Type} : DataW H → Nat
  | .lit (.string bytes) => bytes.length + 1
  | .lit _ => 1
  | .nil => 1
  | .ptr d => uptoBulk d + 1
  | .slice elems spare => uptoBulkAll elems + uptoBulkAll spare + 1
  | .agg parts => uptoBulkAll parts + 1
  | .iface _ d => uptoBulk d + 1
  | .map entries => uptoBulkEntries entries + 1
  | .held _ => 1
def uptoBulkAll {H : Type} : List (DataW H) → Nat
  | [] => 0
  | d :: r => uptoBulk d + uptoBulkAll r
def uptoBulkEntries {H : Type} : List (Lit × DataW H) → Nat
  | [] => 0
  | x :: r => uptoBulkEntry x + uptoBulkEntries r
def uptoBulkEntry {H : Type} : Lit × DataW H → Nat
  | (.string bytes, d) => bytes.length + uptoBulk d + 1
  | (_, d) => uptoBulk d + 1
 end
def uptoSmall : (H : Type) → List (DataW H) → Bool := fun _ ds => decide (uptoBulkAll ds ≤ 1048576)
def OpenSpec.upto (s : _root_.Go.ChangeSpec) : _root_.Go.OpenSpec := { _root_.Go.OpenSpec.ofChange s with cond := some uptoSmall }

/-- 'sapperlaw13.SuffixNames', WHERE WHAT IT READS IS OF BULK AT MOST 1048576: true; the input reads as it did. -/
def suffixNamesUptoRow : OpenClaim := { program := "ythcnnfahlhklgaa", sum := "81342198bfc9496e76163bf8ff07f634c89bccba7a0333878d7eefe7c6ad65b4", func := "sapper/sapperlaw13.SuffixNames", spec := "suffixNames", recurses := true, apart := false, narrowed := true }
def SuffixNamesUptoSaid : Prop := suffixNamesUptoRow.holds Try.pinned (OpenSpec.upto suffixNamesSpec)

/-- 'sapperlaw13.SuffixCommons', WHERE WHAT IT READS IS OF BULK AT MOST 1048576: true; the input reads as it did. -/
def suffixCommonsUptoRow : OpenClaim := { program := "ythcnnfahlhklgaa", sum := "81342198bfc9496e76163bf8ff07f634c89bccba7a0333878d7eefe7c6ad65b4", func := "sapper/sapperlaw13.SuffixCommons", spec := "suffixCommons", recurses := true, apart := false, narrowed := true }
def SuffixCommonsUptoSaid : Prop := suffixCommonsUptoRow.holds Try.pinned (OpenSpec.upto suffixCommonsSpec)

/-- 'sapperlaw13.SuffixSteps', WHERE WHAT IT READS IS OF BULK AT MOST 1048576: true; the input reads as it did. -/
def suffixStepsUptoRow : OpenClaim := { program := "ythcnnfahlhklgaa", sum := "81342198bfc9496e76163bf8ff07f634c89bccba7a0333878d7eefe7c6ad65b4", func := "sapper/sapperlaw13.SuffixSteps", spec := "suffixSteps", recurses := true, apart := false, narrowed := true }
def SuffixStepsUptoSaid : Prop := suffixStepsUptoRow.holds Try.pinned (OpenSpec.upto suffixStepsSpec)

/-- 'sapperlaw13.SuffixLeast', WHERE WHAT IT READS IS OF BULK AT MOST 1048576: true; the input reads as it did. -/
def suffixLeastUptoRow : OpenClaim := { program := "ythcnnfahlhklgaa", sum := "81342198bfc9496e76163bf8ff07f634c89bccba7a0333878d7eefe7c6ad65b4", func := "sapper/sapperlaw13.SuffixLeast", spec := "suffixLeast", recurses := true, apart := false, narrowed := true }
def SuffixLeastUptoSaid : Prop := suffixLeastUptoRow.holds Try.pinned (OpenSpec.upto suffixLeastSpec)

/-- 'sapperlaw13.SuffixChecks', WHERE WHAT IT READS IS OF BULK AT MOST 1048576: true; the input reads as it did. -/
def suffixChecksUptoRow : OpenClaim := { program := "ythcnnfahlhklgaa", sum := "81342198bfc9496e76163bf8ff07f634c89bccba7a0333878d7eefe7c6ad65b4", func := "sapper/sapperlaw13.SuffixChecks", spec := "suffixChecks", recurses := true, apart := false, narrowed := true }
def SuffixChecksUptoSaid : Prop := suffixChecksUptoRow.holds Try.pinned (OpenSpec.upto suffixChecksSpec)

/-- 'sapperlaw13.SuffixOrders', WHERE WHAT IT READS IS OF BULK AT MOST 1048576: true; the input reads as it did. -/
def suffixOrdersUptoRow : OpenClaim := { program := "ythcnnfahlhklgaa", sum := "81342198bfc9496e76163bf8ff07f634c89bccba7a0333878d7eefe7c6ad65b4", func := "sapper/sapperlaw13.SuffixOrders", spec := "suffixOrders", recurses := true, apart := false, narrowed := true }
def SuffixOrdersUptoSaid : Prop := suffixOrdersUptoRow.holds Try.pinned (OpenSpec.upto suffixOrdersSpec)

/-- 'sapperlaw13.SuffixTurns', WHERE WHAT IT READS IS OF BULK AT MOST 1048576: true; the input reads as it did. -/
def suffixTurnsUptoRow : OpenClaim := { program := "ythcnnfahlhklgaa", sum := "81342198bfc9496e76163bf8ff07f634c89bccba7a0333878d7eefe7c6ad65b4", func := "sapper/sapperlaw13.SuffixTurns", spec := "suffixTurns", recurses := true, apart := false, narrowed := true }
def SuffixTurnsUptoSaid : Prop := suffixTurnsUptoRow.holds Try.pinned (OpenSpec.upto suffixTurnsSpec)

/-- 'sapperlaw13.SuffixBack', WHERE WHAT IT READS IS OF BULK AT MOST 1048576: true; the input reads as it did. -/
def suffixBackUptoRow : OpenClaim := { program := "ythcnnfahlhklgaa", sum := "81342198bfc9496e76163bf8ff07f634c89bccba7a0333878d7eefe7c6ad65b4", func := "sapper/sapperlaw13.SuffixBack", spec := "suffixBack", recurses := true, apart := false, narrowed := true }
def SuffixBackUptoSaid : Prop := suffixBackUptoRow.holds Try.pinned (OpenSpec.upto suffixBackSpec)

/-- 'sapperlaw13.SuffixIndexes', WHERE WHAT IT READS IS OF BULK AT MOST 1048576: true; the input reads as it did. -/
def suffixIndexesUptoRow : OpenClaim := { program := "ythcnnfahlhklgaa", sum := "81342198bfc9496e76163bf8ff07f634c89bccba7a0333878d7eefe7c6ad65b4", func := "sapper/sapperlaw13.SuffixIndexes", spec := "suffixIndexes", unfollowed := true, recurses := true, apart := false, narrowed := true }
def SuffixIndexesUptoSaid : Prop := suffixIndexesUptoRow.holds Try.pinned (OpenSpec.upto suffixIndexesSpec)

/-- 'sapperlaw13.SuffixShares', WHERE WHAT IT READS IS OF BULK AT MOST 1048576: true; the input reads as it did. -/
def suffixSharesUptoRow : OpenClaim := { program := "ythcnnfahlhklgaa", sum := "81342198bfc9496e76163bf8ff07f634c89bccba7a0333878d7eefe7c6ad65b4", func := "sapper/sapperlaw13.SuffixShares", spec := "suffixShares", unfollowed := true, recurses := true, apart := false, narrowed := true }
def SuffixSharesUptoSaid : Prop := suffixSharesUptoRow.holds Try.pinned (OpenSpec.upto suffixSharesSpec)

/-- 'sapperlaw13.SuffixKinds', WHERE WHAT IT READS IS OF BULK AT MOST 1048576: true; the input reads as it did. -/
def suffixKindsUptoRow : OpenClaim := { program := "ythcnnfahlhklgaa", sum := "81342198bfc9496e76163bf8ff07f634c89bccba7a0333878d7eefe7c6ad65b4", func := "sapper/sapperlaw13.SuffixKinds", spec := "suffixKinds", unfollowed := true, recurses := true, apart := false, narrowed := true }
def SuffixKindsUptoSaid : Prop := suffixKindsUptoRow.holds Try.pinned (OpenSpec.upto suffixKindsSpec)

/-- 'sapperlaw13.SuffixMade', WHERE WHAT IT READS IS OF BULK AT MOST 1048576: true; the input reads as it did. -/
def suffixMadeUptoRow : OpenClaim := { program := "ythcnnfahlhklgaa", sum := "81342198bfc9496e76163bf8ff07f634c89bccba7a0333878d7eefe7c6ad65b4", func := "sapper/sapperlaw13.SuffixMade", spec := "suffixMade", unfollowed := true, recurses := true, apart := false, narrowed := true }
def SuffixMadeUptoSaid : Prop := suffixMadeUptoRow.holds Try.pinned (OpenSpec.upto suffixMadeSpec)

end Rows
end Go.Proofs.Ythcnnfahlhklgaa
