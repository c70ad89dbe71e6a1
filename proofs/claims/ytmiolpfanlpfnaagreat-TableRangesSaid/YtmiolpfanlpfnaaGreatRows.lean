/-
  NARROWER THAN 'FOR EVERY INPUT', by the rows' own cells (each row's printed sentence says how): ScanPaths: loops · FindRuns: loops · FindValues: loops · FindWays: loops · FindParts: loops · FindLimits: loops · ScanLess: loops · ScanRuns: loops.
  DERIVED. THE GIVEN ROWS OF THIS SEAT. 12 by the template 'for every input the law returns true; each argument reads behind the call as it read before'; 0 by the template 'total and deterministic' (their statements: YtmiolpfanlpfnaaGreatTotals.lean).
  GIVEN WITH THE SEED: the statements are not yours to turn. If you find one false, say at which input.
  Laid BY PROGRAM, IN A SANDBOX (cutbox-rows.mjs): the forced cells as the released guide's own fill.sh prints them over the translation 207d4f41da69dc1a… (all of the seat's roots in one cut). By AI agents, Wed Nov 11 2026. No macro, syntax, notation, axiom, sorry.
-/
import Derived.Test.YtmiolpfanlpfnaaGreatChecked
import GoSem.Claim
import GoSem.ClaimJoined
import GoSem.ClaimMapViews
import Derived.JoinedTies
import Derived.KernelRfl
namespace Go.Proofs.YtmiolpfanlpfnaaGreat
/- THE CELL 'sum', in the pinned program and in every row, IS THE sha256 OF THE DUMP (.gsa) THAT YtmiolpfanlpfnaaGreatProg.lean LOADS. Nothing in Lean hashes anything: it is a label: what it is worth is what the hold of that sum in a sandbox is worth. -/
noncomputable def Tryz.pinned : Pinned := { name := "ytmiolpfanlpfnaagreat", sum := "207d4f41da69dc1a600bb37e819162b7807b5cbbcc9949bc39f96df0927e5cc4", checked := Tryz.checked }
namespace Rows
def none {H : Type} : Left H := { results := [], args := [] }

/-- 'annalistlaw13.TableFinds': WHATEVER THE INPUT: true; the input reads as it did. -/
def tableFindsSpec : ChangeSpec := { name := "tableFinds", fn := fun _ => fun
  | [d1, d2, d3, d4] => { results := [.lit (.bool true)], args := [d1, d2, d3, d4] }
  | _ => none }
def tableFindsRow : OpenClaim := { program := "ytmiolpfanlpfnaagreat", sum := "207d4f41da69dc1a600bb37e819162b7807b5cbbcc9949bc39f96df0927e5cc4", func := "annalist/annalistlaw13.TableFinds", spec := "tableFinds", inPlace := ["internal/abi.NoEscape", "internal/bytealg.MakeNoZero", "slices.overlaps[annalist/cache.item[int, string]]", "slices.overlaps[string]", "slices.overlaps[int]"], unfollowed := true, recurses := true, apart := false }
def TableFindsSaid : Prop := tableFindsRow.holds Tryz.pinned (OpenSpec.ofChange tableFindsSpec)

/-- ITS FALSE NEIGHBOUR: 'it returns false'. Refute it at one input. -/
def tableFindsWrong : ChangeSpec := { name := "tableFinds", fn := fun _ => fun
  | [d1, d2, d3, d4] => { results := [.lit (.bool false)], args := [d1, d2, d3, d4] }
  | _ => none }
def TableFindsWrongFalsely : Prop := tableFindsRow.holds Tryz.pinned (OpenSpec.ofChange tableFindsWrong)

/-- 'annalistlaw13.TableWays': WHATEVER THE INPUT: true; the input reads as it did. -/
def tableWaysSpec : ChangeSpec := { name := "tableWays", fn := fun _ => fun
  | [d] => { results := [.lit (.bool true)], args := [d] }
  | _ => none }
def tableWaysRow : OpenClaim := { program := "ytmiolpfanlpfnaagreat", sum := "207d4f41da69dc1a600bb37e819162b7807b5cbbcc9949bc39f96df0927e5cc4", func := "annalist/annalistlaw13.TableWays", spec := "tableWays", inPlace := ["internal/abi.NoEscape", "internal/bytealg.MakeNoZero", "slices.overlaps[annalist/cache.item[int, string]]", "slices.overlaps[string]", "slices.overlaps[int]"], unfollowed := true, recurses := true, apart := false }
def TableWaysSaid : Prop := tableWaysRow.holds Tryz.pinned (OpenSpec.ofChange tableWaysSpec)

/-- ITS FALSE NEIGHBOUR: 'it returns false'. Refute it at one input. -/
def tableWaysWrong : ChangeSpec := { name := "tableWays", fn := fun _ => fun
  | [d] => { results := [.lit (.bool false)], args := [d] }
  | _ => none }
def TableWaysWrongFalsely : Prop := tableWaysRow.holds Tryz.pinned (OpenSpec.ofChange tableWaysWrong)

/-- 'annalistlaw13.TableRanges': WHATEVER THE INPUT: true; the input reads as it did. -/
def tableRangesSpec : ChangeSpec := { name := "tableRanges", fn := fun _ => fun
  | [d1, d2, d3, d4, d5] => { results := [.lit (.bool true)], args := [d1, d2, d3, d4, d5] }
  | _ => none }
def tableRangesRow : OpenClaim := { program := "ytmiolpfanlpfnaagreat", sum := "207d4f41da69dc1a600bb37e819162b7807b5cbbcc9949bc39f96df0927e5cc4", func := "annalist/annalistlaw13.TableRanges", spec := "tableRanges", inPlace := ["internal/abi.NoEscape", "internal/bytealg.MakeNoZero", "slices.overlaps[annalist/cache.item[int, string]]", "slices.overlaps[string]", "slices.overlaps[int]"], unfollowed := true, recurses := true, apart := false }
def TableRangesSaid : Prop := tableRangesRow.holds Tryz.pinned (OpenSpec.ofChange tableRangesSpec)

/-- ITS FALSE NEIGHBOUR: 'it returns false'. Refute it at one input. -/
def tableRangesWrong : ChangeSpec := { name := "tableRanges", fn := fun _ => fun
  | [d1, d2, d3, d4, d5] => { results := [.lit (.bool false)], args := [d1, d2, d3, d4, d5] }
  | _ => none }
def TableRangesWrongFalsely : Prop := tableRangesRow.holds Tryz.pinned (OpenSpec.ofChange tableRangesWrong)

/-- 'annalistlaw28.ScanPaths': WHATEVER THE INPUT: true; the input reads as it did. -/
def scanPathsSpec : ChangeSpec := { name := "scanPaths", fn := fun _ => fun
  | [d1, d2] => { results := [.lit (.bool true)], args := [d1, d2] }
  | _ => none }
def scanPathsRow : OpenClaim := { program := "ytmiolpfanlpfnaagreat", sum := "207d4f41da69dc1a600bb37e819162b7807b5cbbcc9949bc39f96df0927e5cc4", func := "annalist/annalistlaw28.ScanPaths", spec := "scanPaths", inPlace := ["internal/abi.NoEscape", "internal/bytealg.MakeNoZero", "slices.overlaps[annalist/cache.item[int, string]]", "slices.overlaps[string]", "slices.overlaps[int]"], unfollowed := true, recurses := true, loops := true, apart := false }
def ScanPathsSaid : Prop := scanPathsRow.holds Tryz.pinned (OpenSpec.ofChange scanPathsSpec)

/-- ITS FALSE NEIGHBOUR: 'it returns false'. Refute it at one input. -/
def scanPathsWrong : ChangeSpec := { name := "scanPaths", fn := fun _ => fun
  | [d1, d2] => { results := [.lit (.bool false)], args := [d1, d2] }
  | _ => none }
def ScanPathsWrongFalsely : Prop := scanPathsRow.holds Tryz.pinned (OpenSpec.ofChange scanPathsWrong)

/-- 'annalistlaw20.FindRuns': WHATEVER THE INPUT: true; the input reads as it did. -/
def findRunsSpec : ChangeSpec := { name := "findRuns", fn := fun _ => fun
  | [d1, d2] => { results := [.lit (.bool true)], args := [d1, d2] }
  | _ => none }
def findRunsRow : OpenClaim := { program := "ytmiolpfanlpfnaagreat", sum := "207d4f41da69dc1a600bb37e819162b7807b5cbbcc9949bc39f96df0927e5cc4", func := "annalist/annalistlaw20.FindRuns", spec := "findRuns", inPlace := ["internal/abi.NoEscape", "internal/bytealg.MakeNoZero", "slices.overlaps[annalist/cache.item[int, string]]", "slices.overlaps[string]", "slices.overlaps[int]"], unfollowed := true, recurses := true, loops := true, apart := false }
def FindRunsSaid : Prop := findRunsRow.holds Tryz.pinned (OpenSpec.ofChange findRunsSpec)

/-- ITS FALSE NEIGHBOUR: 'it returns false'. Refute it at one input. -/
def findRunsWrong : ChangeSpec := { name := "findRuns", fn := fun _ => fun
  | [d1, d2] => { results := [.lit (.bool false)], args := [d1, d2] }
  | _ => none }
def FindRunsWrongFalsely : Prop := findRunsRow.holds Tryz.pinned (OpenSpec.ofChange findRunsWrong)

/-- 'annalistlaw20.FindValues': WHATEVER THE INPUT: true; the input reads as it did. -/
def findValuesSpec : ChangeSpec := { name := "findValues", fn := fun _ => fun
  | [d1, d2, d3] => { results := [.lit (.bool true)], args := [d1, d2, d3] }
  | _ => none }
def findValuesRow : OpenClaim := { program := "ytmiolpfanlpfnaagreat", sum := "207d4f41da69dc1a600bb37e819162b7807b5cbbcc9949bc39f96df0927e5cc4", func := "annalist/annalistlaw20.FindValues", spec := "findValues", inPlace := ["internal/abi.NoEscape", "internal/bytealg.MakeNoZero", "slices.overlaps[annalist/cache.item[int, string]]", "slices.overlaps[string]", "slices.overlaps[int]"], unfollowed := true, recurses := true, loops := true, apart := false }
def FindValuesSaid : Prop := findValuesRow.holds Tryz.pinned (OpenSpec.ofChange findValuesSpec)

/-- ITS FALSE NEIGHBOUR: 'it returns false'. Refute it at one input. -/
def findValuesWrong : ChangeSpec := { name := "findValues", fn := fun _ => fun
  | [d1, d2, d3] => { results := [.lit (.bool false)], args := [d1, d2, d3] }
  | _ => none }
def FindValuesWrongFalsely : Prop := findValuesRow.holds Tryz.pinned (OpenSpec.ofChange findValuesWrong)

/-- 'annalistlaw20.FindWays': WHATEVER THE INPUT: true; the input reads as it did. -/
def findWaysSpec : ChangeSpec := { name := "findWays", fn := fun _ => fun
  | [d1, d2, d3] => { results := [.lit (.bool true)], args := [d1, d2, d3] }
  | _ => none }
def findWaysRow : OpenClaim := { program := "ytmiolpfanlpfnaagreat", sum := "207d4f41da69dc1a600bb37e819162b7807b5cbbcc9949bc39f96df0927e5cc4", func := "annalist/annalistlaw20.FindWays", spec := "findWays", inPlace := ["internal/abi.NoEscape", "internal/bytealg.MakeNoZero", "slices.overlaps[annalist/cache.item[int, string]]", "slices.overlaps[string]", "slices.overlaps[int]"], unfollowed := true, recurses := true, loops := true, apart := false }
def FindWaysSaid : Prop := findWaysRow.holds Tryz.pinned (OpenSpec.ofChange findWaysSpec)

/-- ITS FALSE NEIGHBOUR: 'it returns false'. Refute it at one input. -/
def findWaysWrong : ChangeSpec := { name := "findWays", fn := fun _ => fun
  | [d1, d2, d3] => { results := [.lit (.bool false)], args := [d1, d2, d3] }
  | _ => none }
def FindWaysWrongFalsely : Prop := findWaysRow.holds Tryz.pinned (OpenSpec.ofChange findWaysWrong)

/-- 'annalistlaw20.FindParts': WHATEVER THE INPUT: true; the input reads as it did. -/
def findPartsSpec : ChangeSpec := { name := "findParts", fn := fun _ => fun
  | [d1, d2] => { results := [.lit (.bool true)], args := [d1, d2] }
  | _ => none }
def findPartsRow : OpenClaim := { program := "ytmiolpfanlpfnaagreat", sum := "207d4f41da69dc1a600bb37e819162b7807b5cbbcc9949bc39f96df0927e5cc4", func := "annalist/annalistlaw20.FindParts", spec := "findParts", inPlace := ["internal/abi.NoEscape", "internal/bytealg.MakeNoZero", "slices.overlaps[annalist/cache.item[int, string]]", "slices.overlaps[string]", "slices.overlaps[int]"], unfollowed := true, recurses := true, loops := true, apart := false }
def FindPartsSaid : Prop := findPartsRow.holds Tryz.pinned (OpenSpec.ofChange findPartsSpec)

/-- ITS FALSE NEIGHBOUR: 'it returns false'. Refute it at one input. -/
def findPartsWrong : ChangeSpec := { name := "findParts", fn := fun _ => fun
  | [d1, d2] => { results := [.lit (.bool false)], args := [d1, d2] }
  | _ => none }
def FindPartsWrongFalsely : Prop := findPartsRow.holds Tryz.pinned (OpenSpec.ofChange findPartsWrong)

/-- 'annalistlaw20.FindTimes': WHATEVER THE INPUT: true; the input reads as it did. -/
def findTimesSpec : ChangeSpec := { name := "findTimes", fn := fun _ => fun
  | [d1, d2] => { results := [.lit (.bool true)], args := [d1, d2] }
  | _ => none }
def findTimesRow : OpenClaim := { program := "ytmiolpfanlpfnaagreat", sum := "207d4f41da69dc1a600bb37e819162b7807b5cbbcc9949bc39f96df0927e5cc4", func := "annalist/annalistlaw20.FindTimes", spec := "findTimes", inPlace := ["internal/abi.NoEscape", "internal/bytealg.MakeNoZero", "slices.overlaps[annalist/cache.item[int, string]]", "slices.overlaps[string]", "slices.overlaps[int]"], unfollowed := true, recurses := true, apart := false }
def FindTimesSaid : Prop := findTimesRow.holds Tryz.pinned (OpenSpec.ofChange findTimesSpec)

/-- ITS FALSE NEIGHBOUR: 'it returns false'. Refute it at one input. -/
def findTimesWrong : ChangeSpec := { name := "findTimes", fn := fun _ => fun
  | [d1, d2] => { results := [.lit (.bool false)], args := [d1, d2] }
  | _ => none }
def FindTimesWrongFalsely : Prop := findTimesRow.holds Tryz.pinned (OpenSpec.ofChange findTimesWrong)

/-- 'annalistlaw20.FindLimits': WHATEVER THE INPUT: true; the input reads as it did. -/
def findLimitsSpec : ChangeSpec := { name := "findLimits", fn := fun _ => fun
  | [d1, d2, d3] => { results := [.lit (.bool true)], args := [d1, d2, d3] }
  | _ => none }
def findLimitsRow : OpenClaim := { program := "ytmiolpfanlpfnaagreat", sum := "207d4f41da69dc1a600bb37e819162b7807b5cbbcc9949bc39f96df0927e5cc4", func := "annalist/annalistlaw20.FindLimits", spec := "findLimits", inPlace := ["internal/abi.NoEscape", "internal/bytealg.MakeNoZero", "slices.overlaps[annalist/cache.item[int, string]]", "slices.overlaps[string]", "slices.overlaps[int]"], unfollowed := true, recurses := true, loops := true, apart := false }
def FindLimitsSaid : Prop := findLimitsRow.holds Tryz.pinned (OpenSpec.ofChange findLimitsSpec)

/-- ITS FALSE NEIGHBOUR: 'it returns false'. Refute it at one input. -/
def findLimitsWrong : ChangeSpec := { name := "findLimits", fn := fun _ => fun
  | [d1, d2, d3] => { results := [.lit (.bool false)], args := [d1, d2, d3] }
  | _ => none }
def FindLimitsWrongFalsely : Prop := findLimitsRow.holds Tryz.pinned (OpenSpec.ofChange findLimitsWrong)

/-- 'annalistlaw28.ScanLess': WHATEVER THE INPUT: true; the input reads as it did. -/
def scanLessSpec : ChangeSpec := { name := "scanLess", fn := fun _ => fun
  | [d1, d2, d3, d4] => { results := [.lit (.bool true)], args := [d1, d2, d3, d4] }
  | _ => none }
def scanLessRow : OpenClaim := { program := "ytmiolpfanlpfnaagreat", sum := "207d4f41da69dc1a600bb37e819162b7807b5cbbcc9949bc39f96df0927e5cc4", func := "annalist/annalistlaw28.ScanLess", spec := "scanLess", inPlace := ["internal/abi.NoEscape", "internal/bytealg.MakeNoZero", "slices.overlaps[annalist/cache.item[int, string]]", "slices.overlaps[string]", "slices.overlaps[int]"], unfollowed := true, recurses := true, loops := true, apart := false }
def ScanLessSaid : Prop := scanLessRow.holds Tryz.pinned (OpenSpec.ofChange scanLessSpec)

/-- ITS FALSE NEIGHBOUR: 'it returns false'. Refute it at one input. -/
def scanLessWrong : ChangeSpec := { name := "scanLess", fn := fun _ => fun
  | [d1, d2, d3, d4] => { results := [.lit (.bool false)], args := [d1, d2, d3, d4] }
  | _ => none }
def ScanLessWrongFalsely : Prop := scanLessRow.holds Tryz.pinned (OpenSpec.ofChange scanLessWrong)

/-- 'annalistlaw28.ScanRuns': WHATEVER THE INPUT: true; the input reads as it did. -/
def scanRunsSpec : ChangeSpec := { name := "scanRuns", fn := fun _ => fun
  | [d1, d2] => { results := [.lit (.bool true)], args := [d1, d2] }
  | _ => none }
def scanRunsRow : OpenClaim := { program := "ytmiolpfanlpfnaagreat", sum := "207d4f41da69dc1a600bb37e819162b7807b5cbbcc9949bc39f96df0927e5cc4", func := "annalist/annalistlaw28.ScanRuns", spec := "scanRuns", inPlace := ["internal/abi.NoEscape", "internal/bytealg.MakeNoZero", "slices.overlaps[annalist/cache.item[int, string]]", "slices.overlaps[string]", "slices.overlaps[int]"], unfollowed := true, recurses := true, loops := true, apart := false }
def ScanRunsSaid : Prop := scanRunsRow.holds Tryz.pinned (OpenSpec.ofChange scanRunsSpec)

/-- ITS FALSE NEIGHBOUR: 'it returns false'. Refute it at one input. -/
def scanRunsWrong : ChangeSpec := { name := "scanRuns", fn := fun _ => fun
  | [d1, d2] => { results := [.lit (.bool false)], args := [d1, d2] }
  | _ => none }
def ScanRunsWrongFalsely : Prop := scanRunsRow.holds Tryz.pinned (OpenSpec.ofChange scanRunsWrong)

/- THE SECOND FORM. 'bulk': how many values and letters a reading holds, each counted each time it is reached (what is shared counts as often as it is met; a slice's spare places count too). A statement '..UptoSaid' is the law's where the arguments, and the package variables that the reading takes, are together of bulk at most 1048576: NARROWER than '..Said'. Prove '..Said' where nothing that the law and all that it calls make is longer than what came in: it says more and counts as full. Else prove '..UptoSaid'. A law counts once. -/
mutual
def uptoBulk {H : Type} : DataW H → Nat
  | .lit (.string bytes) => bytes.length + 1
  | .lit _ => 1
  | .nil => 1
  | .ptr d => uptoBulk d + 1
  | .slice elems spare => uptoBulkAll elems + uptoBulkAll spare + 1
  | .agg parts => uptoBulkAll parts + 1
  | .iface _ d => uptoBulk d + 1
  | .map entries => uptoBulkEntries entries + 1
  | .held _ => 1
def uptoBulkAll {H : Type} : List (DataW H) → Nat
  | [] => 0
  | d :: r => uptoBulk d + uptoBulkAll r
def uptoBulkEntries {H : Type} : List (Lit × DataW H) → Nat
  | [] => 0
  | x :: r => uptoBulkEntry x + uptoBulkEntries r
def uptoBulkEntry {H : Type} : Lit × DataW H → Nat
  | (.string bytes, d) => bytes.length + uptoBulk d + 1
  | (_, d) => uptoBulk d + 1
 end
def uptoSmall : (H : Type) → List (DataW H) → Bool := fun _ ds => decide (uptoBulkAll ds ≤ 1048576)
def OpenSpec.upto (s : _root_.Go.ChangeSpec) : _root_.Go.OpenSpec := { _root_.Go.OpenSpec.ofChange s with cond := some uptoSmall }

/-- 'annalistlaw13.TableFinds', WHERE WHAT IT READS IS OF BULK AT MOST 1048576: true; the input reads as it did. -/
def tableFindsUptoRow : OpenClaim := { program := "ytmiolpfanlpfnaagreat", sum := "207d4f41da69dc1a600bb37e819162b7807b5cbbcc9949bc39f96df0927e5cc4", func := "annalist/annalistlaw13.TableFinds", spec := "tableFinds", inPlace := ["internal/abi.NoEscape", "internal/bytealg.MakeNoZero", "slices.overlaps[annalist/cache.item[int, string]]", "slices.overlaps[string]", "slices.overlaps[int]"], unfollowed := true, recurses := true, apart := false, narrowed := true }
def TableFindsUptoSaid : Prop := tableFindsUptoRow.holds Tryz.pinned (OpenSpec.upto tableFindsSpec)

/-- 'annalistlaw13.TableWays', WHERE WHAT IT READS IS OF BULK AT MOST 1048576: true; the input reads as it did. -/
def tableWaysUptoRow : OpenClaim := { program := "ytmiolpfanlpfnaagreat", sum := "207d4f41da69dc1a600bb37e819162b7807b5cbbcc9949bc39f96df0927e5cc4", func := "annalist/annalistlaw13.TableWays", spec := "tableWays", inPlace := ["internal/abi.NoEscape", "internal/bytealg.MakeNoZero", "slices.overlaps[annalist/cache.item[int, string]]", "slices.overlaps[string]", "slices.overlaps[int]"], unfollowed := true, recurses := true, apart := false, narrowed := true }
def TableWaysUptoSaid : Prop := tableWaysUptoRow.holds Tryz.pinned (OpenSpec.upto tableWaysSpec)

/-- 'annalistlaw13.TableRanges', WHERE WHAT IT READS IS OF BULK AT MOST 1048576: true; the input reads as it did. -/
def tableRangesUptoRow : OpenClaim := { program := "ytmiolpfanlpfnaagreat", sum := "207d4f41da69dc1a600bb37e819162b7807b5cbbcc9949bc39f96df0927e5cc4", func := "annalist/annalistlaw13.TableRanges", spec := "tableRanges", inPlace := ["internal/abi.NoEscape", "internal/bytealg.MakeNoZero", "slices.overlaps[annalist/cache.item[int, string]]", "slices.overlaps[string]", "slices.overlaps[int]"], unfollowed := true, recurses := true, apart := false, narrowed := true }
def TableRangesUptoSaid : Prop := tableRangesUptoRow.holds Tryz.pinned (OpenSpec.upto tableRangesSpec)

/-- 'annalistlaw28.ScanPaths', WHERE WHAT IT READS IS OF BULK AT MOST 1048576: true; the input reads as it did. -/
def scanPathsUptoRow : OpenClaim := { program := "ytmiolpfanlpfnaagreat", sum := "207d4f41da69dc1a600bb37e819162b7807b5cbbcc9949bc39f96df0927e5cc4", func := "annalist/annalistlaw28.ScanPaths", spec := "scanPaths", inPlace := ["internal/abi.NoEscape", "internal/bytealg.MakeNoZero", "slices.overlaps[annalist/cache.item[int, string]]", "slices.overlaps[string]", "slices.overlaps[int]"], unfollowed := true, recurses := true, loops := true, apart := false, narrowed := true }
def ScanPathsUptoSaid : Prop := scanPathsUptoRow.holds Tryz.pinned (OpenSpec.upto scanPathsSpec)

/-- 'annalistlaw20.FindRuns', WHERE WHAT IT READS IS OF BULK AT MOST 1048576: true; the input reads as it did. -/
def findRunsUptoRow : OpenClaim := { program := "ytmiolpfanlpfnaagreat", sum := "207d4f41da69dc1a600bb37e819162b7807b5cbbcc9949bc39f96df0927e5cc4", func := "annalist/annalistlaw20.FindRuns", spec := "findRuns", inPlace := ["internal/abi.NoEscape", "internal/bytealg.MakeNoZero", "slices.overlaps[annalist/cache.item[int, string]]", "slices.overlaps[string]", "slices.overlaps[int]"], unfollowed := true, recurses := true, loops := true, apart := false, narrowed := true }
def FindRunsUptoSaid : Prop := findRunsUptoRow.holds Tryz.pinned (OpenSpec.upto findRunsSpec)

/-- 'annalistlaw20.FindValues', WHERE WHAT IT READS IS OF BULK AT MOST 1048576: true; the input reads as it did. -/
def findValuesUptoRow : OpenClaim := { program := "ytmiolpfanlpfnaagreat", sum := "207d4f41da69dc1a600bb37e819162b7807b5cbbcc9949bc39f96df0927e5cc4", func := "annalist/annalistlaw20.FindValues", spec := "findValues", inPlace := ["internal/abi.NoEscape", "internal/bytealg.MakeNoZero", "slices.overlaps[annalist/cache.item[int, string]]", "slices.overlaps[string]", "slices.overlaps[int]"], unfollowed := true, recurses := true, loops := true, apart := false, narrowed := true }
def FindValuesUptoSaid : Prop := findValuesUptoRow.holds Tryz.pinned (OpenSpec.upto findValuesSpec)

/-- 'annalistlaw20.FindWays', WHERE WHAT IT READS IS OF BULK AT MOST 1048576: true; the input reads as it did. -/
def findWaysUptoRow : OpenClaim := { program := "ytmiolpfanlpfnaagreat", sum := "207d4f41da69dc1a600bb37e819162b7807b5cbbcc9949bc39f96df0927e5cc4", func := "annalist/annalistlaw20.FindWays", spec := "findWays", inPlace := ["internal/abi.NoEscape", "internal/bytealg.MakeNoZero", "slices.overlaps[annalist/cache.item[int, string]]", "slices.overlaps[string]", "slices.overlaps[int]"], unfollowed := true, recurses := true, loops := true, apart := false, narrowed := true }
def FindWaysUptoSaid : Prop := findWaysUptoRow.holds Tryz.pinned (OpenSpec.upto findWaysSpec)

/-- 'annalistlaw20.FindParts', WHERE WHAT IT READS IS OF BULK AT MOST 1048576: true; the input reads as it did. -/
def findPartsUptoRow : OpenClaim := { program := "ytmiolpfanlpfnaagreat", sum := "207d4f41da69dc1a600bb37e819162b7807b5cbbcc9949bc39f96df0927e5cc4", func := "annalist/annalistlaw20.FindParts", spec := "findParts", inPlace := ["internal/abi.NoEscape", "internal/bytealg.MakeNoZero", "slices.overlaps[annalist/cache.item[int, string]]", "slices.overlaps[string]", "slices.overlaps[int]"], unfollowed := true, recurses := true, loops := true, apart := false, narrowed := true }
def FindPartsUptoSaid : Prop := findPartsUptoRow.holds Tryz.pinned (OpenSpec.upto findPartsSpec)

/-- 'annalistlaw20.FindTimes', WHERE WHAT IT READS IS OF BULK AT MOST 1048576: true; the input reads as it did. -/
def findTimesUptoRow : OpenClaim := { program := "ytmiolpfanlpfnaagreat", sum := "207d4f41da69dc1a600bb37e819162b7807b5cbbcc9949bc39f96df0927e5cc4", func := "annalist/annalistlaw20.FindTimes", spec := "findTimes", inPlace := ["internal/abi.NoEscape", "internal/bytealg.MakeNoZero", "slices.overlaps[annalist/cache.item[int, string]]", "slices.overlaps[string]", "slices.overlaps[int]"], unfollowed := true, recurses := true, apart := false, narrowed := true }
def FindTimesUptoSaid : Prop := findTimesUptoRow.holds Tryz.pinned (OpenSpec.upto findTimesSpec)

/-- 'annalistlaw20.FindLimits', WHERE WHAT IT READS IS OF BULK AT MOST 1048576: true; the input reads as it did. -/
def findLimitsUptoRow : OpenClaim := { program := "ytmiolpfanlpfnaagreat", sum := "207d4f41da69dc1a600bb37e819162b7807b5cbbcc9949bc39f96df0927e5cc4", func := "annalist/annalistlaw20.FindLimits", spec := "findLimits", inPlace := ["internal/abi.NoEscape", "internal/bytealg.MakeNoZero", "slices.overlaps[annalist/cache.item[int, string]]", "slices.overlaps[string]", "slices.overlaps[int]"], unfollowed := true, recurses := true, loops := true, apart := false, narrowed := true }
def FindLimitsUptoSaid : Prop := findLimitsUptoRow.holds Tryz.pinned (OpenSpec.upto findLimitsSpec)

/-- 'annalistlaw28.ScanLess', WHERE WHAT IT READS IS OF BULK AT MOST 1048576: true; the input reads as it did. -/
def scanLessUptoRow : OpenClaim := { program := "ytmiolpfanlpfnaagreat", sum := "207d4f41da69dc1a600bb37e819162b7807b5cbbcc9949bc39f96df0927e5cc4", func := "annalist/annalistlaw28.ScanLess", spec := "scanLess", inPlace := ["internal/abi.NoEscape", "internal/bytealg.MakeNoZero", "slices.overlaps[annalist/cache.item[int, string]]", "slices.overlaps[string]", "slices.overlaps[int]"], unfollowed := true, recurses := true, loops := true, apart := false, narrowed := true }
def ScanLessUptoSaid : Prop := scanLessUptoRow.holds Tryz.pinned (OpenSpec.upto scanLessSpec)

/-- 'annalistlaw28.ScanRuns', WHERE WHAT IT READS IS OF BULK AT MOST 1048576: true; the input reads as it did. -/
def scanRunsUptoRow : OpenClaim := { program := "ytmiolpfanlpfnaagreat", sum := "207d4f41da69dc1a600bb37e819162b7807b5cbbcc9949bc39f96df0927e5cc4", func := "annalist/annalistlaw28.ScanRuns", spec := "scanRuns", inPlace := ["internal/abi.NoEscape", "internal/bytealg.MakeNoZero", "slices.overlaps[annalist/cache.item[int, string]]", "slices.overlaps[string]", "slices.overlaps[int]"], unfollowed := true, recurses := true, loops := true, apart := false, narrowed := true }
def ScanRunsUptoSaid : Prop := scanRunsUptoRow.holds Tryz.pinned (OpenSpec.upto scanRunsSpec)

end Rows
end Go.Proofs.YtmiolpfanlpfnaaGreat
