/-
  No cell of these rows narrows 'for every input' (looked for: loops, veiled, ifaces, maps, wideKeys, modest, calm, conditions, laid).
  DERIVED. THE GIVEN ROWS OF THIS SEAT. 6 by the template 'for every input the law returns true; each argument reads behind the call as it read before'; 0 by the template 'total and deterministic' (their statements: YtobknpeglagaaaaTotals.lean).
  GIVEN WITH THE SEED: the statements are not yours to turn. If you find one false, say at which input.
  Laid BY PROGRAM, IN A SANDBOX (cutbox-rows.mjs): the forced cells as the released guide's own fill.sh prints them over the translation 52bb47b566a85918… (all of the seat's roots in one cut). By AI agents, Wed Nov 11 2026. No macro, syntax, notation, axiom, sorry.
-/
import Derived.Test.YtobknpeglagaaaaChecked
import GoSem.Claim
import GoSem.ClaimJoined
import GoSem.ClaimMapViews
import Derived.JoinedTies
import Derived.KernelRfl
namespace Go.Proofs.Ytobknpeglagaaaa
/- THE CELL 'sum', in the pinned program and in every row, IS THE sha256 OF THE DUMP (.gsa) THAT YtobknpeglagaaaaProg.lean LOADS. Nothing in Lean hashes anything: it is a label: what it is worth is what the hold of that sum in a sandbox is worth. -/
noncomputable def Try.pinned : Pinned := { name := "ytobknpeglagaaaa", sum := "52bb47b566a8591855928ed4cbb06a2651e83a64c9917732fcb9fea7e0c17a24", checked := Try.checked }
namespace Rows
def none {H : Type} : Left H := { results := [], args := [] }

/-- 'sapperlaw15.ScanNames': WHATEVER THE INPUT: true; the input reads as it did. -/
def scanNamesSpec : ChangeSpec := { name := "scanNames", fn := fun _ => fun
  | [] => { results := [.lit (.bool true)], args := [] }
  | _ => none }
def scanNamesRow : OpenClaim := { program := "ytobknpeglagaaaa", sum := "52bb47b566a8591855928ed4cbb06a2651e83a64c9917732fcb9fea7e0c17a24", func := "sapper/sapperlaw15.ScanNames", spec := "scanNames", unfollowed := true, recurses := true, apart := false }
def ScanNamesSaid : Prop := scanNamesRow.holds Try.pinned (OpenSpec.ofChange scanNamesSpec)

/-- ITS FALSE NEIGHBOUR: 'it returns false'. Refute it at one input. -/
def scanNamesWrong : ChangeSpec := { name := "scanNames", fn := fun _ => fun
  | [] => { results := [.lit (.bool false)], args := [] }
  | _ => none }
def ScanNamesWrongFalsely : Prop := scanNamesRow.holds Try.pinned (OpenSpec.ofChange scanNamesWrong)

/-- 'sapperlaw15.ScanSteps': WHATEVER THE INPUT: true; the input reads as it did. -/
def scanStepsSpec : ChangeSpec := { name := "scanSteps", fn := fun _ => fun
  | [d1, d2] => { results := [.lit (.bool true)], args := [d1, d2] }
  | _ => none }
def scanStepsRow : OpenClaim := { program := "ytobknpeglagaaaa", sum := "52bb47b566a8591855928ed4cbb06a2651e83a64c9917732fcb9fea7e0c17a24", func := "sapper/sapperlaw15.ScanSteps", spec := "scanSteps", unfollowed := true, recurses := true, apart := false }
def ScanStepsSaid : Prop := scanStepsRow.holds Try.pinned (OpenSpec.ofChange scanStepsSpec)

/-- ITS FALSE NEIGHBOUR: 'it returns false'. Refute it at one input. -/
def scanStepsWrong : ChangeSpec := { name := "scanSteps", fn := fun _ => fun
  | [d1, d2] => { results := [.lit (.bool false)], args := [d1, d2] }
  | _ => none }
def ScanStepsWrongFalsely : Prop := scanStepsRow.holds Try.pinned (OpenSpec.ofChange scanStepsWrong)

/-- 'sapperlaw15.ScanPays': WHATEVER THE INPUT: true; the input reads as it did. -/
def scanPaysSpec : ChangeSpec := { name := "scanPays", fn := fun _ => fun
  | [d1, d2, d3] => { results := [.lit (.bool true)], args := [d1, d2, d3] }
  | _ => none }
def scanPaysRow : OpenClaim := { program := "ytobknpeglagaaaa", sum := "52bb47b566a8591855928ed4cbb06a2651e83a64c9917732fcb9fea7e0c17a24", func := "sapper/sapperlaw15.ScanPays", spec := "scanPays", unfollowed := true, recurses := true, apart := false }
def ScanPaysSaid : Prop := scanPaysRow.holds Try.pinned (OpenSpec.ofChange scanPaysSpec)

/-- ITS FALSE NEIGHBOUR: 'it returns false'. Refute it at one input. -/
def scanPaysWrong : ChangeSpec := { name := "scanPays", fn := fun _ => fun
  | [d1, d2, d3] => { results := [.lit (.bool false)], args := [d1, d2, d3] }
  | _ => none }
def ScanPaysWrongFalsely : Prop := scanPaysRow.holds Try.pinned (OpenSpec.ofChange scanPaysWrong)

/-- 'sapperlaw15.ScanMakes': WHATEVER THE INPUT: true; the input reads as it did. -/
def scanMakesSpec : ChangeSpec := { name := "scanMakes", fn := fun _ => fun
  | [d1, d2] => { results := [.lit (.bool true)], args := [d1, d2] }
  | _ => none }
def scanMakesRow : OpenClaim := { program := "ytobknpeglagaaaa", sum := "52bb47b566a8591855928ed4cbb06a2651e83a64c9917732fcb9fea7e0c17a24", func := "sapper/sapperlaw15.ScanMakes", spec := "scanMakes", unfollowed := true, recurses := true, apart := false }
def ScanMakesSaid : Prop := scanMakesRow.holds Try.pinned (OpenSpec.ofChange scanMakesSpec)

/-- ITS FALSE NEIGHBOUR: 'it returns false'. Refute it at one input. -/
def scanMakesWrong : ChangeSpec := { name := "scanMakes", fn := fun _ => fun
  | [d1, d2] => { results := [.lit (.bool false)], args := [d1, d2] }
  | _ => none }
def ScanMakesWrongFalsely : Prop := scanMakesRow.holds Try.pinned (OpenSpec.ofChange scanMakesWrong)

/-- 'sapperlaw15.ScanSelf': WHATEVER THE INPUT: true; the input reads as it did. -/
def scanSelfSpec : ChangeSpec := { name := "scanSelf", fn := fun _ => fun
  | [d] => { results := [.lit (.bool true)], args := [d] }
  | _ => none }
def scanSelfRow : OpenClaim := { program := "ytobknpeglagaaaa", sum := "52bb47b566a8591855928ed4cbb06a2651e83a64c9917732fcb9fea7e0c17a24", func := "sapper/sapperlaw15.ScanSelf", spec := "scanSelf", unfollowed := true, recurses := true, apart := false }
def ScanSelfSaid : Prop := scanSelfRow.holds Try.pinned (OpenSpec.ofChange scanSelfSpec)

/-- ITS FALSE NEIGHBOUR: 'it returns false'. Refute it at one input. -/
def scanSelfWrong : ChangeSpec := { name := "scanSelf", fn := fun _ => fun
  | [d] => { results := [.lit (.bool false)], args := [d] }
  | _ => none }
def ScanSelfWrongFalsely : Prop := scanSelfRow.holds Try.pinned (OpenSpec.ofChange scanSelfWrong)

/-- 'sapperlaw15.ScanMade': WHATEVER THE INPUT: true; the input reads as it did. -/
def scanMadeSpec : ChangeSpec := { name := "scanMade", fn := fun _ => fun
  | [d] => { results := [.lit (.bool true)], args := [d] }
  | _ => none }
def scanMadeRow : OpenClaim := { program := "ytobknpeglagaaaa", sum := "52bb47b566a8591855928ed4cbb06a2651e83a64c9917732fcb9fea7e0c17a24", func := "sapper/sapperlaw15.ScanMade", spec := "scanMade", unfollowed := true, recurses := true, apart := false }
def ScanMadeSaid : Prop := scanMadeRow.holds Try.pinned (OpenSpec.ofChange scanMadeSpec)

/-- ITS FALSE NEIGHBOUR: 'it returns false'. Refute it at one input. -/
def scanMadeWrong : ChangeSpec := { name := "scanMade", fn := fun _ => fun
  | [d] => { results := [.lit (.bool false)], args := [d] }
  | _ => none }
def ScanMadeWrongFalsely : Prop := scanMadeRow.holds Try.pinned (OpenSpec.ofChange scanMadeWrong)

/- THE SECOND FORM. 'bulk': how many values and letters a reading holds, each counted each time it is reached (what is shared counts as often as it is met; a slice's spare places count too). A statement '..UptoSaid' is the law's where the arguments, and the package variables that the reading takes, are together of bulk at most 1048576: NARROWER than '..Said'. Prove '..Said' where nothing that the law and all that it calls make is longer than what came in: it says more and counts as full. Else prove '..UptoSaid'. A law counts once. -/
mutual
def uptoBulk {H : Type} : DataW H → Nat
  | .lit (.string bytes) => bytes.length + 1
  | .lit _ => 1
  | .nil => 1
  | .ptr d => uptoBulk d + 1
  | .slice elems spare => uptoBulkAll elems + uptoBulkAll spare + 1
  | .agg parts => uptoBulkAll parts + 1
  | .iface _ d => uptoBulk d + 1
  | .map entries => uptoBulkEntries entries + 1
  | .held _ => 1
def uptoBulkAll {H : Type} : List (DataW H) → Nat
  | [] => 0
  | d :: r => uptoBulk d + uptoBulkAll r
def uptoBulkEntries {H : Type} : List (Lit × DataW H) → Nat
  | [] => 0
  | x :: r => uptoBulkEntry x + uptoBulkEntries r
def uptoBulkEntry {H : Type} : Lit × DataW H → Nat
  | (.string bytes, d) => bytes.length + uptoBulk d + 1
  | (_, d) => uptoBulk d + 1
 end
def uptoSmall : (H : Type) → List (DataW H) → Bool := fun _ ds => decide (uptoBulkAll ds ≤ 1048576)
def OpenSpec.upto (s : _root_.Go.ChangeSpec) : _root_.Go.OpenSpec := { _root_.Go.OpenSpec.ofChange s with cond := some uptoSmall }

/-- 'sapperlaw15.ScanNames', WHERE WHAT IT READS IS OF BULK AT MOST 1048576: true; the input reads as it did. -/
def scanNamesUptoRow : OpenClaim := { program := "ytobknpeglagaaaa", sum := "52bb47b566a8591855928ed4cbb06a2651e83a64c9917732fcb9fea7e0c17a24", func := "sapper/sapperlaw15.ScanNames", spec := "scanNames", unfollowed := true, recurses := true, apart := false, narrowed := true }
def ScanNamesUptoSaid : Prop := scanNamesUptoRow.holds Try.pinned (OpenSpec.upto scanNamesSpec)

/-- 'sapperlaw15.ScanSteps', WHERE WHAT IT READS IS OF BULK AT MOST 1048576: true; the input reads as it did. -/
def scanStepsUptoRow : OpenClaim := { program := "ytobknpeglagaaaa", sum := "52bb47b566a8591855928ed4cbb06a2651e83a64c9917732fcb9fea7e0c17a24", func := "sapper/sapperlaw15.ScanSteps", spec := "scanSteps", unfollowed := true, recurses := true, apart := false, narrowed := true }
def ScanStepsUptoSaid : Prop := scanStepsUptoRow.holds Try.pinned (OpenSpec.upto scanStepsSpec)

/-- 'sapperlaw15.ScanPays', WHERE WHAT IT READS IS OF BULK AT MOST 1048576: true; the input reads as it did. -/
def scanPaysUptoRow : OpenClaim := { program := "ytobknpeglagaaaa", sum := "52bb47b566a8591855928ed4cbb06a2651e83a64c9917732fcb9fea7e0c17a24", func := "sapper/sapperlaw15.ScanPays", spec := "scanPays", unfollowed := true, recurses := true, apart := false, narrowed := true }
def ScanPaysUptoSaid : Prop := scanPaysUptoRow.holds Try.pinned (OpenSpec.upto scanPaysSpec)

/-- 'sapperlaw15.ScanMakes', WHERE WHAT IT READS IS OF BULK AT MOST 1048576: true; the input reads as it did. -/
def scanMakesUptoRow : OpenClaim := { program := "ytobknpeglagaaaa", sum := "52bb47b566a8591855928ed4cbb06a2651e83a64c9917732fcb9fea7e0c17a24", func := "sapper/sapperlaw15.ScanMakes", spec := "scanMakes", unfollowed := true, recurses := true, apart := false, narrowed := true }
def ScanMakesUptoSaid : Prop := scanMakesUptoRow.holds Try.pinned (OpenSpec.upto scanMakesSpec)

/-- 'sapperlaw15.ScanSelf', WHERE WHAT IT READS IS OF BULK AT MOST 1048576: true; the input reads as it did. -/
def scanSelfUptoRow : OpenClaim := { program := "ytobknpeglagaaaa", sum := "52bb47b566a8591855928ed4cbb06a2651e83a64c9917732fcb9fea7e0c17a24", func := "sapper/sapperlaw15.ScanSelf", spec := "scanSelf", unfollowed := true, recurses := true, apart := false, narrowed := true }
def ScanSelfUptoSaid : Prop := scanSelfUptoRow.holds Try.pinned (OpenSpec.upto scanSelfSpec)

/-- 'sapperlaw15.ScanMade', WHERE WHAT IT READS IS OF BULK AT MOST 1048576: true; the input reads as it did. -/
def scanMadeUptoRow : OpenClaim := { program := "ytobknpeglagaaaa", sum := "52bb47b566a8591855928ed4cbb06a2651e83a64c9917732fcb9fea7e0c17a24", func := "sapper/sapperlaw15.ScanMade", spec := "scanMade", unfollowed := true, recurses := true, apart := false, narrowed := true }
def ScanMadeUptoSaid : Prop := scanMadeUptoRow.holds Try.pinned (OpenSpec.upto scanMadeSpec)

end Rows
end Go.Proofs.Ytobknpeglagaaaa
