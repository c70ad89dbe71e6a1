/-
  No cell of these rows narrows 'for every input' (looked for: loops, veiled, ifaces, maps, wideKeys, modest, calm, conditions, laid).
  DERIVED. THE GIVEN ROWS OF THIS SEAT. 7 by the template 'for every input the law returns true; each argument reads behind the call as it read before'; 0 by the template 'total and deterministic' (their statements: YtohaldfnmgcofaaGreatTotals.lean).
  GIVEN WITH THE SEED: the statements are not yours to turn. If you find one false, say at which input.
  Laid BY PROGRAM, IN A SANDBOX (cutbox-rows.mjs): the forced cells as the released guide's own fill.sh prints them over the translation 9361f6fa526f8cb5… (all of the seat's roots in one cut). By AI agents, Wed Nov 11 2026. No macro, syntax, notation, axiom, sorry.
-/
import Derived.Test.YtohaldfnmgcofaaGreatChecked
import GoSem.Claim
import GoSem.ClaimJoined
import GoSem.ClaimMapViews
import Derived.JoinedTies
import Derived.KernelRfl
namespace Go.Proofs.YtohaldfnmgcofaaGreat
/- THE CELL 'sum', in the pinned program and in every row, IS THE sha256 OF THE DUMP (.gsa) THAT YtohaldfnmgcofaaGreatProg.lean LOADS. Nothing in Lean hashes anything: it is a label: what it is worth is what the hold of that sum in a sandbox is worth. -/
noncomputable def Tryz.pinned : Pinned := { name := "ytohaldfnmgcofaagreat", sum := "9361f6fa526f8cb5da13029636c331ad8341ec5d9444d5f0a1f2432f5857b072", checked := Tryz.checked }
namespace Rows
def none {H : Type} : Left H := { results := [], args := [] }

/-- 'annalistlaw17.MemoBack': WHATEVER THE INPUT: true; the input reads as it did. -/
def memoBackSpec : ChangeSpec := { name := "memoBack", fn := fun _ => fun
  | [d1, d2, d3] => { results := [.lit (.bool true)], args := [d1, d2, d3] }
  | _ => none }
def memoBackRow : OpenClaim := { program := "ytohaldfnmgcofaagreat", sum := "9361f6fa526f8cb5da13029636c331ad8341ec5d9444d5f0a1f2432f5857b072", func := "annalist/annalistlaw17.MemoBack", spec := "memoBack", inPlace := ["internal/abi.NoEscape", "internal/bytealg.MakeNoZero", "slices.overlaps[annalist/cache.item[int, string]]", "slices.overlaps[string]", "slices.overlaps[int]"], unfollowed := true, recurses := true, apart := false }
def MemoBackSaid : Prop := memoBackRow.holds Tryz.pinned (OpenSpec.ofChange memoBackSpec)

/-- ITS FALSE NEIGHBOUR: 'it returns false'. Refute it at one input. -/
def memoBackWrong : ChangeSpec := { name := "memoBack", fn := fun _ => fun
  | [d1, d2, d3] => { results := [.lit (.bool false)], args := [d1, d2, d3] }
  | _ => none }
def MemoBackWrongFalsely : Prop := memoBackRow.holds Tryz.pinned (OpenSpec.ofChange memoBackWrong)

/-- 'annalistlaw17.MemoNobody': WHATEVER THE INPUT: true; the input reads as it did. -/
def memoNobodySpec : ChangeSpec := { name := "memoNobody", fn := fun _ => fun
  | [d] => { results := [.lit (.bool true)], args := [d] }
  | _ => none }
def memoNobodyRow : OpenClaim := { program := "ytohaldfnmgcofaagreat", sum := "9361f6fa526f8cb5da13029636c331ad8341ec5d9444d5f0a1f2432f5857b072", func := "annalist/annalistlaw17.MemoNobody", spec := "memoNobody", inPlace := ["slices.overlaps[annalist/cache.item[int, string]]", "internal/abi.NoEscape", "slices.overlaps[string]", "slices.overlaps[int]", "internal/bytealg.MakeNoZero"], unfollowed := true, recurses := true, apart := false }
def MemoNobodySaid : Prop := memoNobodyRow.holds Tryz.pinned (OpenSpec.ofChange memoNobodySpec)

/-- ITS FALSE NEIGHBOUR: 'it returns false'. Refute it at one input. -/
def memoNobodyWrong : ChangeSpec := { name := "memoNobody", fn := fun _ => fun
  | [d] => { results := [.lit (.bool false)], args := [d] }
  | _ => none }
def MemoNobodyWrongFalsely : Prop := memoNobodyRow.holds Tryz.pinned (OpenSpec.ofChange memoNobodyWrong)

/-- 'annalistlaw17.MemoPlays': WHATEVER THE INPUT: true; the input reads as it did. -/
def memoPlaysSpec : ChangeSpec := { name := "memoPlays", fn := fun _ => fun
  | [d] => { results := [.lit (.bool true)], args := [d] }
  | _ => none }
def memoPlaysRow : OpenClaim := { program := "ytohaldfnmgcofaagreat", sum := "9361f6fa526f8cb5da13029636c331ad8341ec5d9444d5f0a1f2432f5857b072", func := "annalist/annalistlaw17.MemoPlays", spec := "memoPlays", inPlace := ["internal/abi.NoEscape", "internal/bytealg.MakeNoZero", "slices.overlaps[annalist/cache.item[int, string]]", "slices.overlaps[string]", "slices.overlaps[int]"], unfollowed := true, recurses := true, apart := false }
def MemoPlaysSaid : Prop := memoPlaysRow.holds Tryz.pinned (OpenSpec.ofChange memoPlaysSpec)

/-- ITS FALSE NEIGHBOUR: 'it returns false'. Refute it at one input. -/
def memoPlaysWrong : ChangeSpec := { name := "memoPlays", fn := fun _ => fun
  | [d] => { results := [.lit (.bool false)], args := [d] }
  | _ => none }
def MemoPlaysWrongFalsely : Prop := memoPlaysRow.holds Tryz.pinned (OpenSpec.ofChange memoPlaysWrong)

/-- 'annalistlaw17.MemoForgets': WHATEVER THE INPUT: true; the input reads as it did. -/
def memoForgetsSpec : ChangeSpec := { name := "memoForgets", fn := fun _ => fun
  | [d1, d2, d3, d4] => { results := [.lit (.bool true)], args := [d1, d2, d3, d4] }
  | _ => none }
def memoForgetsRow : OpenClaim := { program := "ytohaldfnmgcofaagreat", sum := "9361f6fa526f8cb5da13029636c331ad8341ec5d9444d5f0a1f2432f5857b072", func := "annalist/annalistlaw17.MemoForgets", spec := "memoForgets", inPlace := ["internal/abi.NoEscape", "internal/bytealg.MakeNoZero", "slices.overlaps[annalist/cache.item[int, string]]", "slices.overlaps[string]", "slices.overlaps[int]"], unfollowed := true, recurses := true, apart := false }
def MemoForgetsSaid : Prop := memoForgetsRow.holds Tryz.pinned (OpenSpec.ofChange memoForgetsSpec)

/-- ITS FALSE NEIGHBOUR: 'it returns false'. Refute it at one input. -/
def memoForgetsWrong : ChangeSpec := { name := "memoForgets", fn := fun _ => fun
  | [d1, d2, d3, d4] => { results := [.lit (.bool false)], args := [d1, d2, d3, d4] }
  | _ => none }
def MemoForgetsWrongFalsely : Prop := memoForgetsRow.holds Tryz.pinned (OpenSpec.ofChange memoForgetsWrong)

/-- 'annalistlaw13.TablePlays': WHATEVER THE INPUT: true; the input reads as it did. -/
def tablePlaysSpec : ChangeSpec := { name := "tablePlays", fn := fun _ => fun
  | [d] => { results := [.lit (.bool true)], args := [d] }
  | _ => none }
def tablePlaysRow : OpenClaim := { program := "ytohaldfnmgcofaagreat", sum := "9361f6fa526f8cb5da13029636c331ad8341ec5d9444d5f0a1f2432f5857b072", func := "annalist/annalistlaw13.TablePlays", spec := "tablePlays", inPlace := ["internal/abi.NoEscape", "internal/bytealg.MakeNoZero", "slices.overlaps[annalist/cache.item[int, string]]", "slices.overlaps[string]", "slices.overlaps[int]"], unfollowed := true, recurses := true, apart := false }
def TablePlaysSaid : Prop := tablePlaysRow.holds Tryz.pinned (OpenSpec.ofChange tablePlaysSpec)

/-- ITS FALSE NEIGHBOUR: 'it returns false'. Refute it at one input. -/
def tablePlaysWrong : ChangeSpec := { name := "tablePlays", fn := fun _ => fun
  | [d] => { results := [.lit (.bool false)], args := [d] }
  | _ => none }
def TablePlaysWrongFalsely : Prop := tablePlaysRow.holds Tryz.pinned (OpenSpec.ofChange tablePlaysWrong)

/-- 'annalistlaw13.TableTroubles': WHATEVER THE INPUT: true; the input reads as it did. -/
def tableTroublesSpec : ChangeSpec := { name := "tableTroubles", fn := fun _ => fun
  | [d1, d2, d3, d4, d5] => { results := [.lit (.bool true)], args := [d1, d2, d3, d4, d5] }
  | _ => none }
def tableTroublesRow : OpenClaim := { program := "ytohaldfnmgcofaagreat", sum := "9361f6fa526f8cb5da13029636c331ad8341ec5d9444d5f0a1f2432f5857b072", func := "annalist/annalistlaw13.TableTroubles", spec := "tableTroubles", inPlace := ["internal/abi.NoEscape", "internal/bytealg.MakeNoZero", "slices.overlaps[annalist/cache.item[int, string]]", "slices.overlaps[string]", "slices.overlaps[int]"], unfollowed := true, recurses := true, apart := false }
def TableTroublesSaid : Prop := tableTroublesRow.holds Tryz.pinned (OpenSpec.ofChange tableTroublesSpec)

/-- ITS FALSE NEIGHBOUR: 'it returns false'. Refute it at one input. -/
def tableTroublesWrong : ChangeSpec := { name := "tableTroubles", fn := fun _ => fun
  | [d1, d2, d3, d4, d5] => { results := [.lit (.bool false)], args := [d1, d2, d3, d4, d5] }
  | _ => none }
def TableTroublesWrongFalsely : Prop := tableTroublesRow.holds Tryz.pinned (OpenSpec.ofChange tableTroublesWrong)

/-- 'annalistlaw13.TableSound': WHATEVER THE INPUT: true; the input reads as it did. -/
def tableSoundSpec : ChangeSpec := { name := "tableSound", fn := fun _ => fun
  | [d] => { results := [.lit (.bool true)], args := [d] }
  | _ => none }
def tableSoundRow : OpenClaim := { program := "ytohaldfnmgcofaagreat", sum := "9361f6fa526f8cb5da13029636c331ad8341ec5d9444d5f0a1f2432f5857b072", func := "annalist/annalistlaw13.TableSound", spec := "tableSound", inPlace := ["internal/abi.NoEscape", "internal/bytealg.MakeNoZero", "slices.overlaps[annalist/cache.item[int, string]]", "slices.overlaps[string]", "slices.overlaps[int]"], unfollowed := true, recurses := true, apart := false }
def TableSoundSaid : Prop := tableSoundRow.holds Tryz.pinned (OpenSpec.ofChange tableSoundSpec)

/-- ITS FALSE NEIGHBOUR: 'it returns false'. Refute it at one input. -/
def tableSoundWrong : ChangeSpec := { name := "tableSound", fn := fun _ => fun
  | [d] => { results := [.lit (.bool false)], args := [d] }
  | _ => none }
def TableSoundWrongFalsely : Prop := tableSoundRow.holds Tryz.pinned (OpenSpec.ofChange tableSoundWrong)

/- THE SECOND FORM. 'bulk': how many values and letters a reading holds, each counted each time it is reached (what is shared counts as often as it is met; a slice's spare places count too). A statement '..UptoSaid' is the law's where the arguments, and the package variables that the reading takes, are together of bulk at most 1048576: NARROWER than '..Said'. Prove '..Said' where nothing that the law and all that it calls make is longer than what came in: it says more and counts as full. Else prove '..UptoSaid'. A law counts once. -/
mutual
def uptoBulk {H : Type} : DataW H → Nat
  | .lit (.string bytes) => bytes.length + 1
  | .lit _ => 1
  | .nil => 1
  | .ptr d => uptoBulk d + 1
  | .slice elems spare => uptoBulkAll elems + uptoBulkAll spare + 1
  | .agg parts => uptoBulkAll parts + 1
  | .iface _ d => uptoBulk d + 1
  | .map entries => uptoBulkEntries entries + 1
  | .held _ => 1
def uptoBulkAll {H : Type} : List (DataW H) → Nat
  | [] => 0
  | d :: r => uptoBulk d + uptoBulkAll r
def uptoBulkEntries {H : Type} : List (Lit × DataW H) → Nat
  | [] => 0
  | x :: r => uptoBulkEntry x + uptoBulkEntries r
def uptoBulkEntry {H : Type} : Lit × DataW H → Nat
  | (.string bytes, d) => bytes.length + uptoBulk d + 1
  | (_, d) => uptoBulk d + 1
 end
def uptoSmall : (H : Type) → List (DataW H) → Bool := fun _ ds => decide (uptoBulkAll ds ≤ 1048576)
def OpenSpec.upto (s : _root_.Go.ChangeSpec) : _root_.Go.OpenSpec := { _root_.Go.OpenSpec.ofChange s with cond := some uptoSmall }

/-- 'annalistlaw17.MemoBack', WHERE WHAT IT READS IS OF BULK AT MOST 1048576: true; the input reads as it did. -/
def memoBackUptoRow : OpenClaim := { program := "ytohaldfnmgcofaagreat", sum := "9361f6fa526f8cb5da13029636c331ad8341ec5d9444d5f0a1f2432f5857b072", func := "annalist/annalistlaw17.MemoBack", spec := "memoBack", inPlace := ["internal/abi.NoEscape", "internal/bytealg.MakeNoZero", "slices.overlaps[annalist/cache.item[int, string]]", "slices.overlaps[string]", "slices.overlaps[int]"], unfollowed := true, recurses := true, apart := false, narrowed := true }
def MemoBackUptoSaid : Prop := memoBackUptoRow.holds Tryz.pinned (OpenSpec.upto memoBackSpec)

/-- 'annalistlaw17.MemoNobody', WHERE WHAT IT READS IS OF BULK AT MOST 1048576: true; the input reads as it did. -/
def memoNobodyUptoRow : OpenClaim := { program := "ytohaldfnmgcofaagreat", sum := "9361f6fa526f8cb5da13029636c331ad8341ec5d9444d5f0a1f2432f5857b072", func := "annalist/annalistlaw17.MemoNobody", spec := "memoNobody", inPlace := ["slices.overlaps[annalist/cache.item[int, string]]", "internal/abi.NoEscape", "slices.overlaps[string]", "slices.overlaps[int]", "internal/bytealg.MakeNoZero"], unfollowed := true, recurses := true, apart := false, narrowed := true }
def MemoNobodyUptoSaid : Prop := memoNobodyUptoRow.holds Tryz.pinned (OpenSpec.upto memoNobodySpec)

/-- 'annalistlaw17.MemoPlays', WHERE WHAT IT READS IS OF BULK AT MOST 1048576: true; the input reads as it did. -/
def memoPlaysUptoRow : OpenClaim := { program := "ytohaldfnmgcofaagreat", sum := "9361f6fa526f8cb5da13029636c331ad8341ec5d9444d5f0a1f2432f5857b072", func := "annalist/annalistlaw17.MemoPlays", spec := "memoPlays", inPlace := ["internal/abi.NoEscape", "internal/bytealg.MakeNoZero", "slices.overlaps[annalist/cache.item[int, string]]", "slices.overlaps[string]", "slices.overlaps[int]"], unfollowed := true, recurses := true, apart := false, narrowed := true }
def MemoPlaysUptoSaid : Prop := memoPlaysUptoRow.holds Tryz.pinned (OpenSpec.upto memoPlaysSpec)

/-- 'annalistlaw17.MemoForgets', WHERE WHAT IT READS IS OF BULK AT MOST 1048576: true; the input reads as it did. -/
def memoForgetsUptoRow : OpenClaim := { program := "ytohaldfnmgcofaagreat", sum := "9361f6fa526f8cb5da13029636c331ad8341ec5d9444d5f0a1f2432f5857b072", func := "annalist/annalistlaw17.MemoForgets", spec := "memoForgets", inPlace := ["internal/abi.NoEscape", "internal/bytealg.MakeNoZero", "slices.overlaps[annalist/cache.item[int, string]]", "slices.overlaps[string]", "slices.overlaps[int]"], unfollowed := true, recurses := true, apart := false, narrowed := true }
def MemoForgetsUptoSaid : Prop := memoForgetsUptoRow.holds Tryz.pinned (OpenSpec.upto memoForgetsSpec)

/-- 'annalistlaw13.TablePlays', WHERE WHAT IT READS IS OF BULK AT MOST 1048576: true; the input reads as it did. -/
def tablePlaysUptoRow : OpenClaim := { program := "ytohaldfnmgcofaagreat", sum := "9361f6fa526f8cb5da13029636c331ad8341ec5d9444d5f0a1f2432f5857b072", func := "annalist/annalistlaw13.TablePlays", spec := "tablePlays", inPlace := ["internal/abi.NoEscape", "internal/bytealg.MakeNoZero", "slices.overlaps[annalist/cache.item[int, string]]", "slices.overlaps[string]", "slices.overlaps[int]"], unfollowed := true, recurses := true, apart := false, narrowed := true }
def TablePlaysUptoSaid : Prop := tablePlaysUptoRow.holds Tryz.pinned (OpenSpec.upto tablePlaysSpec)

/-- 'annalistlaw13.TableTroubles', WHERE WHAT IT READS IS OF BULK AT MOST 1048576: true; the input reads as it did. -/
def tableTroublesUptoRow : OpenClaim := { program := "ytohaldfnmgcofaagreat", sum := "9361f6fa526f8cb5da13029636c331ad8341ec5d9444d5f0a1f2432f5857b072", func := "annalist/annalistlaw13.TableTroubles", spec := "tableTroubles", inPlace := ["internal/abi.NoEscape", "internal/bytealg.MakeNoZero", "slices.overlaps[annalist/cache.item[int, string]]", "slices.overlaps[string]", "slices.overlaps[int]"], unfollowed := true, recurses := true, apart := false, narrowed := true }
def TableTroublesUptoSaid : Prop := tableTroublesUptoRow.holds Tryz.pinned (OpenSpec.upto tableTroublesSpec)

/-- 'annalistlaw13.TableSound', WHERE WHAT IT READS IS OF BULK AT MOST 1048576: true; the input reads as it did. -/
def tableSoundUptoRow : OpenClaim := { program := "ytohaldfnmgcofaagreat", sum := "9361f6fa526f8cb5da13029636c331ad8341ec5d9444d5f0a1f2432f5857b072", func := "annalist/annalistlaw13.TableSound", spec := "tableSound", inPlace := ["internal/abi.NoEscape", "internal/bytealg.MakeNoZero", "slices.overlaps[annalist/cache.item[int, string]]", "slices.overlaps[string]", "slices.overlaps[int]"], unfollowed := true, recurses := true, apart := false, narrowed := true }
def TableSoundUptoSaid : Prop := tableSoundUptoRow.holds Tryz.pinned (OpenSpec.upto tableSoundSpec)

end Rows
end Go.Proofs.YtohaldfnmgcofaaGreat
