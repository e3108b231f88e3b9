/-
  No cell of these rows narrows 'for every input' (looked for: loops, veiled, ifaces, maps, wideKeys, modest, calm, conditions, laid).
  DERIVED. THE GIVEN ROWS OF THIS SEAT. 13 by the template 'for every input the law returns true; each argument reads behind the call as it read before'; 0 by the template 'total and deterministic' (their statements: YtphchkkicpnehaaTotals.lean).
  GIVEN WITH THE SEED: the statements are not yours to turn. If you find one false, say at which input.
  Laid BY PROGRAM, IN A SANDBOX (cutbox-rows.mjs): the forced cells as the released guide's own fill.sh prints them over the translation a7daad00a1dee824… (all of the seat's roots in one cut). By AI agents, Wed Nov 11 2026. No macro, syntax, notation, axiom, sorry.
-/
import Derived.Test.YtphchkkicpnehaaChecked
import GoSem.Claim
import GoSem.ClaimJoined
import GoSem.ClaimMapViews
import Derived.JoinedTies
import Derived.KernelRfl
namespace Go.Proofs.Ytphchkkicpnehaa
/- THE CELL 'sum', in the pinned program and in every row, IS THE sha256 OF THE DUMP (.gsa) THAT YtphchkkicpnehaaProg.lean LOADS. Nothing in Lean hashes anything: it is a label: what it is worth is what the hold of that sum in a sandbox is worth. -/
noncomputable def Try.pinned : Pinned := { name := "ytphchkkicpnehaa", sum := "a7daad00a1dee8243920c0357bb7d497272ac39eac7ab6bf282e8d87445d74e9", checked := Try.checked }
namespace Rows
def none {H : Type} : Left H := { results := [], args := [] }

/-- 'sapperlaw14.FindRanges': WHATEVER THE INPUT: true; the input reads as it did. -/
def findRangesSpec : ChangeSpec := { name := "findRanges", fn := fun _ => fun
  | [d1, d2] => { results := [.lit (.bool true)], args := [d1, d2] }
  | _ => none }
def findRangesRow : OpenClaim := { program := "ytphchkkicpnehaa", sum := "a7daad00a1dee8243920c0357bb7d497272ac39eac7ab6bf282e8d87445d74e9", func := "sapper/sapperlaw14.FindRanges", spec := "findRanges", unfollowed := true, recurses := true, apart := false }
def FindRangesSaid : Prop := findRangesRow.holds Try.pinned (OpenSpec.ofChange findRangesSpec)

/-- ITS FALSE NEIGHBOUR: 'it returns false'. Refute it at one input. -/
def findRangesWrong : ChangeSpec := { name := "findRanges", fn := fun _ => fun
  | [d1, d2] => { results := [.lit (.bool false)], args := [d1, d2] }
  | _ => none }
def FindRangesWrongFalsely : Prop := findRangesRow.holds Try.pinned (OpenSpec.ofChange findRangesWrong)

/-- 'sapperlaw14.FindWithin': WHATEVER THE INPUT: true; the input reads as it did. -/
def findWithinSpec : ChangeSpec := { name := "findWithin", fn := fun _ => fun
  | [d1, d2] => { results := [.lit (.bool true)], args := [d1, d2] }
  | _ => none }
def findWithinRow : OpenClaim := { program := "ytphchkkicpnehaa", sum := "a7daad00a1dee8243920c0357bb7d497272ac39eac7ab6bf282e8d87445d74e9", func := "sapper/sapperlaw14.FindWithin", spec := "findWithin", unfollowed := true, recurses := true, apart := false }
def FindWithinSaid : Prop := findWithinRow.holds Try.pinned (OpenSpec.ofChange findWithinSpec)

/-- ITS FALSE NEIGHBOUR: 'it returns false'. Refute it at one input. -/
def findWithinWrong : ChangeSpec := { name := "findWithin", fn := fun _ => fun
  | [d1, d2] => { results := [.lit (.bool false)], args := [d1, d2] }
  | _ => none }
def FindWithinWrongFalsely : Prop := findWithinRow.holds Try.pinned (OpenSpec.ofChange findWithinWrong)

/-- 'sapperlaw14.FindStatistics': WHATEVER THE INPUT: true; the input reads as it did. -/
def findStatisticsSpec : ChangeSpec := { name := "findStatistics", fn := fun _ => fun
  | [d1, d2] => { results := [.lit (.bool true)], args := [d1, d2] }
  | _ => none }
def findStatisticsRow : OpenClaim := { program := "ytphchkkicpnehaa", sum := "a7daad00a1dee8243920c0357bb7d497272ac39eac7ab6bf282e8d87445d74e9", func := "sapper/sapperlaw14.FindStatistics", spec := "findStatistics", unfollowed := true, recurses := true, apart := false }
def FindStatisticsSaid : Prop := findStatisticsRow.holds Try.pinned (OpenSpec.ofChange findStatisticsSpec)

/-- ITS FALSE NEIGHBOUR: 'it returns false'. Refute it at one input. -/
def findStatisticsWrong : ChangeSpec := { name := "findStatistics", fn := fun _ => fun
  | [d1, d2] => { results := [.lit (.bool false)], args := [d1, d2] }
  | _ => none }
def FindStatisticsWrongFalsely : Prop := findStatisticsRow.holds Try.pinned (OpenSpec.ofChange findStatisticsWrong)

/-- 'sapperlaw14.FindDistinct': WHATEVER THE INPUT: true; the input reads as it did. -/
def findDistinctSpec : ChangeSpec := { name := "findDistinct", fn := fun _ => fun
  | [d] => { results := [.lit (.bool true)], args := [d] }
  | _ => none }
def findDistinctRow : OpenClaim := { program := "ytphchkkicpnehaa", sum := "a7daad00a1dee8243920c0357bb7d497272ac39eac7ab6bf282e8d87445d74e9", func := "sapper/sapperlaw14.FindDistinct", spec := "findDistinct", unfollowed := true, recurses := true, apart := false }
def FindDistinctSaid : Prop := findDistinctRow.holds Try.pinned (OpenSpec.ofChange findDistinctSpec)

/-- ITS FALSE NEIGHBOUR: 'it returns false'. Refute it at one input. -/
def findDistinctWrong : ChangeSpec := { name := "findDistinct", fn := fun _ => fun
  | [d] => { results := [.lit (.bool false)], args := [d] }
  | _ => none }
def FindDistinctWrongFalsely : Prop := findDistinctRow.holds Try.pinned (OpenSpec.ofChange findDistinctWrong)

/-- 'sapperlaw14.FindCounts': WHATEVER THE INPUT: true; the input reads as it did. -/
def findCountsSpec : ChangeSpec := { name := "findCounts", fn := fun _ => fun
  | [d] => { results := [.lit (.bool true)], args := [d] }
  | _ => none }
def findCountsRow : OpenClaim := { program := "ytphchkkicpnehaa", sum := "a7daad00a1dee8243920c0357bb7d497272ac39eac7ab6bf282e8d87445d74e9", func := "sapper/sapperlaw14.FindCounts", spec := "findCounts", unfollowed := true, recurses := true, apart := false }
def FindCountsSaid : Prop := findCountsRow.holds Try.pinned (OpenSpec.ofChange findCountsSpec)

/-- ITS FALSE NEIGHBOUR: 'it returns false'. Refute it at one input. -/
def findCountsWrong : ChangeSpec := { name := "findCounts", fn := fun _ => fun
  | [d] => { results := [.lit (.bool false)], args := [d] }
  | _ => none }
def FindCountsWrongFalsely : Prop := findCountsRow.holds Try.pinned (OpenSpec.ofChange findCountsWrong)

/-- 'sapperlaw14.FindLongest': WHATEVER THE INPUT: true; the input reads as it did. -/
def findLongestSpec : ChangeSpec := { name := "findLongest", fn := fun _ => fun
  | [d1, d2] => { results := [.lit (.bool true)], args := [d1, d2] }
  | _ => none }
def findLongestRow : OpenClaim := { program := "ytphchkkicpnehaa", sum := "a7daad00a1dee8243920c0357bb7d497272ac39eac7ab6bf282e8d87445d74e9", func := "sapper/sapperlaw14.FindLongest", spec := "findLongest", unfollowed := true, recurses := true, apart := false }
def FindLongestSaid : Prop := findLongestRow.holds Try.pinned (OpenSpec.ofChange findLongestSpec)

/-- ITS FALSE NEIGHBOUR: 'it returns false'. Refute it at one input. -/
def findLongestWrong : ChangeSpec := { name := "findLongest", fn := fun _ => fun
  | [d1, d2] => { results := [.lit (.bool false)], args := [d1, d2] }
  | _ => none }
def FindLongestWrongFalsely : Prop := findLongestRow.holds Try.pinned (OpenSpec.ofChange findLongestWrong)

/-- 'sapperlaw14.FindNoLonger': WHATEVER THE INPUT: true; the input reads as it did. -/
def findNoLongerSpec : ChangeSpec := { name := "findNoLonger", fn := fun _ => fun
  | [d1, d2] => { results := [.lit (.bool true)], args := [d1, d2] }
  | _ => none }
def findNoLongerRow : OpenClaim := { program := "ytphchkkicpnehaa", sum := "a7daad00a1dee8243920c0357bb7d497272ac39eac7ab6bf282e8d87445d74e9", func := "sapper/sapperlaw14.FindNoLonger", spec := "findNoLonger", unfollowed := true, recurses := true, apart := false }
def FindNoLongerSaid : Prop := findNoLongerRow.holds Try.pinned (OpenSpec.ofChange findNoLongerSpec)

/-- ITS FALSE NEIGHBOUR: 'it returns false'. Refute it at one input. -/
def findNoLongerWrong : ChangeSpec := { name := "findNoLonger", fn := fun _ => fun
  | [d1, d2] => { results := [.lit (.bool false)], args := [d1, d2] }
  | _ => none }
def FindNoLongerWrongFalsely : Prop := findNoLongerRow.holds Try.pinned (OpenSpec.ofChange findNoLongerWrong)

/-- 'sapperlaw14.FindFactors': WHATEVER THE INPUT: true; the input reads as it did. -/
def findFactorsSpec : ChangeSpec := { name := "findFactors", fn := fun _ => fun
  | [d1, d2] => { results := [.lit (.bool true)], args := [d1, d2] }
  | _ => none }
def findFactorsRow : OpenClaim := { program := "ytphchkkicpnehaa", sum := "a7daad00a1dee8243920c0357bb7d497272ac39eac7ab6bf282e8d87445d74e9", func := "sapper/sapperlaw14.FindFactors", spec := "findFactors", unfollowed := true, recurses := true, apart := false }
def FindFactorsSaid : Prop := findFactorsRow.holds Try.pinned (OpenSpec.ofChange findFactorsSpec)

/-- ITS FALSE NEIGHBOUR: 'it returns false'. Refute it at one input. -/
def findFactorsWrong : ChangeSpec := { name := "findFactors", fn := fun _ => fun
  | [d1, d2] => { results := [.lit (.bool false)], args := [d1, d2] }
  | _ => none }
def FindFactorsWrongFalsely : Prop := findFactorsRow.holds Try.pinned (OpenSpec.ofChange findFactorsWrong)

/-- 'sapperlaw14.FindFewest': WHATEVER THE INPUT: true; the input reads as it did. -/
def findFewestSpec : ChangeSpec := { name := "findFewest", fn := fun _ => fun
  | [d1, d2] => { results := [.lit (.bool true)], args := [d1, d2] }
  | _ => none }
def findFewestRow : OpenClaim := { program := "ytphchkkicpnehaa", sum := "a7daad00a1dee8243920c0357bb7d497272ac39eac7ab6bf282e8d87445d74e9", func := "sapper/sapperlaw14.FindFewest", spec := "findFewest", unfollowed := true, recurses := true, apart := false }
def FindFewestSaid : Prop := findFewestRow.holds Try.pinned (OpenSpec.ofChange findFewestSpec)

/-- ITS FALSE NEIGHBOUR: 'it returns false'. Refute it at one input. -/
def findFewestWrong : ChangeSpec := { name := "findFewest", fn := fun _ => fun
  | [d1, d2] => { results := [.lit (.bool false)], args := [d1, d2] }
  | _ => none }
def FindFewestWrongFalsely : Prop := findFewestRow.holds Try.pinned (OpenSpec.ofChange findFewestWrong)

/-- 'sapperlaw14.FindPlaces': WHATEVER THE INPUT: true; the input reads as it did. -/
def findPlacesSpec : ChangeSpec := { name := "findPlaces", fn := fun _ => fun
  | [d1, d2] => { results := [.lit (.bool true)], args := [d1, d2] }
  | _ => none }
def findPlacesRow : OpenClaim := { program := "ytphchkkicpnehaa", sum := "a7daad00a1dee8243920c0357bb7d497272ac39eac7ab6bf282e8d87445d74e9", func := "sapper/sapperlaw14.FindPlaces", spec := "findPlaces", unfollowed := true, recurses := true, apart := false }
def FindPlacesSaid : Prop := findPlacesRow.holds Try.pinned (OpenSpec.ofChange findPlacesSpec)

/-- ITS FALSE NEIGHBOUR: 'it returns false'. Refute it at one input. -/
def findPlacesWrong : ChangeSpec := { name := "findPlaces", fn := fun _ => fun
  | [d1, d2] => { results := [.lit (.bool false)], args := [d1, d2] }
  | _ => none }
def FindPlacesWrongFalsely : Prop := findPlacesRow.holds Try.pinned (OpenSpec.ofChange findPlacesWrong)

/-- 'sapperlaw14.FindMatches': WHATEVER THE INPUT: true; the input reads as it did. -/
def findMatchesSpec : ChangeSpec := { name := "findMatches", fn := fun _ => fun
  | [d1, d2, d3] => { results := [.lit (.bool true)], args := [d1, d2, d3] }
  | _ => none }
def findMatchesRow : OpenClaim := { program := "ytphchkkicpnehaa", sum := "a7daad00a1dee8243920c0357bb7d497272ac39eac7ab6bf282e8d87445d74e9", func := "sapper/sapperlaw14.FindMatches", spec := "findMatches", unfollowed := true, recurses := true, apart := false }
def FindMatchesSaid : Prop := findMatchesRow.holds Try.pinned (OpenSpec.ofChange findMatchesSpec)

/-- ITS FALSE NEIGHBOUR: 'it returns false'. Refute it at one input. -/
def findMatchesWrong : ChangeSpec := { name := "findMatches", fn := fun _ => fun
  | [d1, d2, d3] => { results := [.lit (.bool false)], args := [d1, d2, d3] }
  | _ => none }
def FindMatchesWrongFalsely : Prop := findMatchesRow.holds Try.pinned (OpenSpec.ofChange findMatchesWrong)

/-- 'sapperlaw14.FindPairs': WHATEVER THE INPUT: true; the input reads as it did. -/
def findPairsSpec : ChangeSpec := { name := "findPairs", fn := fun _ => fun
  | [d1, d2] => { results := [.lit (.bool true)], args := [d1, d2] }
  | _ => none }
def findPairsRow : OpenClaim := { program := "ytphchkkicpnehaa", sum := "a7daad00a1dee8243920c0357bb7d497272ac39eac7ab6bf282e8d87445d74e9", func := "sapper/sapperlaw14.FindPairs", spec := "findPairs", unfollowed := true, recurses := true, apart := false }
def FindPairsSaid : Prop := findPairsRow.holds Try.pinned (OpenSpec.ofChange findPairsSpec)

/-- ITS FALSE NEIGHBOUR: 'it returns false'. Refute it at one input. -/
def findPairsWrong : ChangeSpec := { name := "findPairs", fn := fun _ => fun
  | [d1, d2] => { results := [.lit (.bool false)], args := [d1, d2] }
  | _ => none }
def FindPairsWrongFalsely : Prop := findPairsRow.holds Try.pinned (OpenSpec.ofChange findPairsWrong)

/-- 'sapperlaw14.FindNone': WHATEVER THE INPUT: true; the input reads as it did. -/
def findNoneSpec : ChangeSpec := { name := "findNone", fn := fun _ => fun
  | [d] => { results := [.lit (.bool true)], args := [d] }
  | _ => none }
def findNoneRow : OpenClaim := { program := "ytphchkkicpnehaa", sum := "a7daad00a1dee8243920c0357bb7d497272ac39eac7ab6bf282e8d87445d74e9", func := "sapper/sapperlaw14.FindNone", spec := "findNone", unfollowed := true, recurses := true, apart := false }
def FindNoneSaid : Prop := findNoneRow.holds Try.pinned (OpenSpec.ofChange findNoneSpec)

/-- ITS FALSE NEIGHBOUR: 'it returns false'. Refute it at one input. -/
def findNoneWrong : ChangeSpec := { name := "findNone", fn := fun _ => fun
  | [d] => { results := [.lit (.bool false)], args := [d] }
  | _ => none }
def FindNoneWrongFalsely : Prop := findNoneRow.holds Try.pinned (OpenSpec.ofChange findNoneWrong)

/- THE SECOND FORM. 'bulk': how many values and letters a reading holds, each counted each time it is reached (what is shared counts as often as it is met; a slice's spare places count too). A statement '..UptoSaid' is the law's where the arguments, and the package variables that the reading takes, are together of bulk at most 1048576: NARROWER than '..Said'. Prove '..Said' where nothing that the law and all that it calls make is longer than what came in: it says more and counts as full. Else prove '..UptoSaid'. A law counts once. -/
mutual
def uptoBulk {H : Type} : DataW H → Nat
  | .lit (.string bytes) => bytes.length + 1
  | .lit _ => 1
  | .nil => 1
  | .ptr d => uptoBulk d + 1
  | .slice elems spare => uptoBulkAll elems + uptoBulkAll spare + 1
  | .agg parts => uptoBulkAll parts + 1
  | .iface _ d => uptoBulk d + 1
  | .map entries => uptoBulkEntries entries + 1
  | .held _ => 1
def uptoBulkAll {H : Type} : List (DataW H) → Nat
  | [] => 0
  | d :: r => uptoBulk d + uptoBulkAll r
def uptoBulkEntries {H : Type} : List (Lit × DataW H) → Nat
  | [] => 0
  | x :: r => uptoBulkEntry x + uptoBulkEntries r
def uptoBulkEntry {H : Type} : Lit × DataW H → Nat
  | (.string bytes, d) => bytes.length + uptoBulk d + 1
  | (_, d) => uptoBulk d + 1
 end
def uptoSmall : (H : Type) → List (DataW H) → Bool := fun _ ds => decide (uptoBulkAll ds ≤ 1048576)
def OpenSpec.upto (s : _root_.Go.ChangeSpec) : _root_.Go.OpenSpec := { _root_.Go.OpenSpec.ofChange s with cond := some uptoSmall }

/-- 'sapperlaw14.FindRanges', WHERE WHAT IT READS IS OF BULK AT MOST 1048576: true; the input reads as it did. -/
def findRangesUptoRow : OpenClaim := { program := "ytphchkkicpnehaa", sum := "a7daad00a1dee8243920c0357bb7d497272ac39eac7ab6bf282e8d87445d74e9", func := "sapper/sapperlaw14.FindRanges", spec := "findRanges", unfollowed := true, recurses := true, apart := false, narrowed := true }
def FindRangesUptoSaid : Prop := findRangesUptoRow.holds Try.pinned (OpenSpec.upto findRangesSpec)

/-- 'sapperlaw14.FindWithin', WHERE WHAT IT READS IS OF BULK AT MOST 1048576: true; the input reads as it did. -/
def findWithinUptoRow : OpenClaim := { program := "ytphchkkicpnehaa", sum := "a7daad00a1dee8243920c0357bb7d497272ac39eac7ab6bf282e8d87445d74e9", func := "sapper/sapperlaw14.FindWithin", spec := "findWithin", unfollowed := true, recurses := true, apart := false, narrowed := true }
def FindWithinUptoSaid : Prop := findWithinUptoRow.holds Try.pinned (OpenSpec.upto findWithinSpec)

/-- 'sapperlaw14.FindStatistics', WHERE WHAT IT READS IS OF BULK AT MOST 1048576: true; the input reads as it did. -/
def findStatisticsUptoRow : OpenClaim := { program := "ytphchkkicpnehaa", sum := "a7daad00a1dee8243920c0357bb7d497272ac39eac7ab6bf282e8d87445d74e9", func := "sapper/sapperlaw14.FindStatistics", spec := "findStatistics", unfollowed := true, recurses := true, apart := false, narrowed := true }
def FindStatisticsUptoSaid : Prop := findStatisticsUptoRow.holds Try.pinned (OpenSpec.upto findStatisticsSpec)

/-- 'sapperlaw14.FindDistinct', WHERE WHAT IT READS IS OF BULK AT MOST 1048576: true; the input reads as it did. -/
def findDistinctUptoRow : OpenClaim := { program := "ytphchkkicpnehaa", sum := "a7daad00a1dee8243920c0357bb7d497272ac39eac7ab6bf282e8d87445d74e9", func := "sapper/sapperlaw14.FindDistinct", spec := "findDistinct", unfollowed := true, recurses := true, apart := false, narrowed := true }
def FindDistinctUptoSaid : Prop := findDistinctUptoRow.holds Try.pinned (OpenSpec.upto findDistinctSpec)

/-- 'sapperlaw14.FindCounts', WHERE WHAT IT READS IS OF BULK AT MOST 1048576: true; the input reads as it did. -/
def findCountsUptoRow : OpenClaim := { program := "ytphchkkicpnehaa", sum := "a7daad00a1dee8243920c0357bb7d497272ac39eac7ab6bf282e8d87445d74e9", func := "sapper/sapperlaw14.FindCounts", spec := "findCounts", unfollowed := true, recurses := true, apart := false, narrowed := true }
def FindCountsUptoSaid : Prop := findCountsUptoRow.holds Try.pinned (OpenSpec.upto findCountsSpec)

/-- 'sapperlaw14.FindLongest', WHERE WHAT IT READS IS OF BULK AT MOST 1048576: true; the input reads as it did. -/
def findLongestUptoRow : OpenClaim := { program := "ytphchkkicpnehaa", sum := "a7daad00a1dee8243920c0357bb7d497272ac39eac7ab6bf282e8d87445d74e9", func := "sapper/sapperlaw14.FindLongest", spec := "findLongest", unfollowed := true, recurses := true, apart := false, narrowed := true }
def FindLongestUptoSaid : Prop := findLongestUptoRow.holds Try.pinned (OpenSpec.upto findLongestSpec)

/-- 'sapperlaw14.FindNoLonger', WHERE WHAT IT READS IS OF BULK AT MOST 1048576: true; the input reads as it did. -/
def findNoLongerUptoRow : OpenClaim := { program := "ytphchkkicpnehaa", sum := "a7daad00a1dee8243920c0357bb7d497272ac39eac7ab6bf282e8d87445d74e9", func := "sapper/sapperlaw14.FindNoLonger", spec := "findNoLonger", unfollowed := true, recurses := true, apart := false, narrowed := true }
def FindNoLongerUptoSaid : Prop := findNoLongerUptoRow.holds Try.pinned (OpenSpec.upto findNoLongerSpec)

/-- 'sapperlaw14.FindFactors', WHERE WHAT IT READS IS OF BULK AT MOST 1048576: true; the input reads as it did. -/
def findFactorsUptoRow : OpenClaim := { program := "ytphchkkicpnehaa", sum := "a7daad00a1dee8243920c0357bb7d497272ac39eac7ab6bf282e8d87445d74e9", func := "sapper/sapperlaw14.FindFactors", spec := "findFactors", unfollowed := true, recurses := true, apart := false, narrowed := true }
def FindFactorsUptoSaid : Prop := findFactorsUptoRow.holds Try.pinned (OpenSpec.upto findFactorsSpec)

/-- 'sapperlaw14.FindFewest', WHERE WHAT IT READS IS OF BULK AT MOST 1048576: true; the input reads as it did. -/
def findFewestUptoRow : OpenClaim := { program := "ytphchkkicpnehaa", sum := "a7daad00a1dee8243920c0357bb7d497272ac39eac7ab6bf282e8d87445d74e9", func := "sapper/sapperlaw14.FindFewest", spec := "findFewest", unfollowed := true, recurses := true, apart := false, narrowed := true }
def FindFewestUptoSaid : Prop := findFewestUptoRow.holds Try.pinned (OpenSpec.upto findFewestSpec)

/-- 'sapperlaw14.FindPlaces', WHERE WHAT IT READS IS OF BULK AT MOST 1048576: true; the input reads as it did. -/
def findPlacesUptoRow : OpenClaim := { program := "ytphchkkicpnehaa", sum := "a7daad00a1dee8243920c0357bb7d497272ac39eac7ab6bf282e8d87445d74e9", func := "sapper/sapperlaw14.FindPlaces", spec := "findPlaces", unfollowed := true, recurses := true, apart := false, narrowed := true }
def FindPlacesUptoSaid : Prop := findPlacesUptoRow.holds Try.pinned (OpenSpec.upto findPlacesSpec)

/-- 'sapperlaw14.FindMatches', WHERE WHAT IT READS IS OF BULK AT MOST 1048576: true; the input reads as it did. -/
def findMatchesUptoRow : OpenClaim := { program := "ytphchkkicpnehaa", sum := "a7daad00a1dee8243920c0357bb7d497272ac39eac7ab6bf282e8d87445d74e9", func := "sapper/sapperlaw14.FindMatches", spec := "findMatches", unfollowed := true, recurses := true, apart := false, narrowed := true }
def FindMatchesUptoSaid : Prop := findMatchesUptoRow.holds Try.pinned (OpenSpec.upto findMatchesSpec)

/-- 'sapperlaw14.FindPairs', WHERE WHAT IT READS IS OF BULK AT MOST 1048576: true; the input reads as it did. -/
def findPairsUptoRow : OpenClaim := { program := "ytphchkkicpnehaa", sum := "a7daad00a1dee8243920c0357bb7d497272ac39eac7ab6bf282e8d87445d74e9", func := "sapper/sapperlaw14.FindPairs", spec := "findPairs", unfollowed := true, recurses := true, apart := false, narrowed := true }
def FindPairsUptoSaid : Prop := findPairsUptoRow.holds Try.pinned (OpenSpec.upto findPairsSpec)

/-- 'sapperlaw14.FindNone', WHERE WHAT IT READS IS OF BULK AT MOST 1048576: true; the input reads as it did. -/
def findNoneUptoRow : OpenClaim := { program := "ytphchkkicpnehaa", sum := "a7daad00a1dee8243920c0357bb7d497272ac39eac7ab6bf282e8d87445d74e9", func := "sapper/sapperlaw14.FindNone", spec := "findNone", unfollowed := true, recurses := true, apart := false, narrowed := true }
def FindNoneUptoSaid : Prop := findNoneUptoRow.holds Try.pinned (OpenSpec.upto findNoneSpec)

end Rows
end Go.Proofs.Ytphchkkicpnehaa
