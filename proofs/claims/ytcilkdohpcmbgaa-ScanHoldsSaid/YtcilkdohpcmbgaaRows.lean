/-
  NARROWER THAN 'FOR EVERY INPUT', by the rows' own cells (each row's printed sentence says how): ScanBounds: loops · ScanHolds: loops.
  DERIVED. THE GIVEN ROWS OF THIS SEAT. 3 by the template 'for every input the law returns true; each argument reads behind the call as it read before'; 0 by the template 'total and deterministic' (their statements: YtcilkdohpcmbgaaTotals.lean).
  GIVEN WITH THE SEED: the statements are not yours to turn. If you find one false, say at which input.
  Laid BY PROGRAM, IN A SANDBOX (cutbox-rows.mjs): the forced cells as the released guide's own fill.sh prints them over the translation 60ae55d988627b61… (all of the seat's roots in one cut). By AI agents, Wed Nov 11 2026. No macro, syntax, notation, axiom, sorry.
-/
import Derived.Test.YtcilkdohpcmbgaaChecked
import GoSem.Claim
import GoSem.ClaimJoined
import GoSem.ClaimMapViews
import Derived.JoinedTies
import Derived.KernelRfl
namespace Go.Proofs.Ytcilkdohpcmbgaa
/- THE CELL 'sum', in the pinned program and in every row, IS THE sha256 OF THE DUMP (.gsa) THAT YtcilkdohpcmbgaaProg.lean LOADS. Nothing in Lean hashes anything: it is a label: what it is worth is what the hold of that sum in a sandbox is worth. -/
noncomputable def Try.pinned : Pinned := { name := "ytcilkdohpcmbgaa", sum := "60ae55d988627b614147acfb59eb69364e7534225097d8cb001a4970ca52b5c7", checked := Try.checked }
namespace Rows
def none {H : Type} : Left H := { results := [], args := [] }

/-- 'annalistlaw28.ScanBounds': WHATEVER THE INPUT: true; the input reads as it did. -/
def scanBoundsSpec : ChangeSpec := { name := "scanBounds", fn := fun _ => fun
  | [d] => { results := [.lit (.bool true)], args := [d] }
  | _ => none }
def scanBoundsRow : OpenClaim := { program := "ytcilkdohpcmbgaa", sum := "60ae55d988627b614147acfb59eb69364e7534225097d8cb001a4970ca52b5c7", func := "annalist/annalistlaw28.ScanBounds", spec := "scanBounds", unfollowed := true, recurses := true, loops := true, apart := false }
def ScanBoundsSaid : Prop := scanBoundsRow.holds Try.pinned (OpenSpec.ofChange scanBoundsSpec)

/-- ITS FALSE NEIGHBOUR: 'it returns false'. Refute it at one input. -/
def scanBoundsWrong : ChangeSpec := { name := "scanBounds", fn := fun _ => fun
  | [d] => { results := [.lit (.bool false)], args := [d] }
  | _ => none }
def ScanBoundsWrongFalsely : Prop := scanBoundsRow.holds Try.pinned (OpenSpec.ofChange scanBoundsWrong)

/-- 'annalistlaw28.ScanChooses': WHATEVER THE INPUT: true; the input reads as it did. -/
def scanChoosesSpec : ChangeSpec := { name := "scanChooses", fn := fun _ => fun
  | [d1, d2] => { results := [.lit (.bool true)], args := [d1, d2] }
  | _ => none }
def scanChoosesRow : OpenClaim := { program := "ytcilkdohpcmbgaa", sum := "60ae55d988627b614147acfb59eb69364e7534225097d8cb001a4970ca52b5c7", func := "annalist/annalistlaw28.ScanChooses", spec := "scanChooses", unfollowed := true, recurses := true, apart := false }
def ScanChoosesSaid : Prop := scanChoosesRow.holds Try.pinned (OpenSpec.ofChange scanChoosesSpec)

/-- ITS FALSE NEIGHBOUR: 'it returns false'. Refute it at one input. -/
def scanChoosesWrong : ChangeSpec := { name := "scanChooses", fn := fun _ => fun
  | [d1, d2] => { results := [.lit (.bool false)], args := [d1, d2] }
  | _ => none }
def ScanChoosesWrongFalsely : Prop := scanChoosesRow.holds Try.pinned (OpenSpec.ofChange scanChoosesWrong)

/-- 'annalistlaw28.ScanHolds': WHATEVER THE INPUT: true; the input reads as it did. -/
def scanHoldsSpec : ChangeSpec := { name := "scanHolds", fn := fun _ => fun
  | [d1, d2, d3] => { results := [.lit (.bool true)], args := [d1, d2, d3] }
  | _ => none }
def scanHoldsRow : OpenClaim := { program := "ytcilkdohpcmbgaa", sum := "60ae55d988627b614147acfb59eb69364e7534225097d8cb001a4970ca52b5c7", func := "annalist/annalistlaw28.ScanHolds", spec := "scanHolds", unfollowed := true, recurses := true, loops := true, apart := false }
def ScanHoldsSaid : Prop := scanHoldsRow.holds Try.pinned (OpenSpec.ofChange scanHoldsSpec)

/-- ITS FALSE NEIGHBOUR: 'it returns false'. Refute it at one input. -/
def scanHoldsWrong : ChangeSpec := { name := "scanHolds", fn := fun _ => fun
  | [d1, d2, d3] => { results := [.lit (.bool false)], args := [d1, d2, d3] }
  | _ => none }
def ScanHoldsWrongFalsely : Prop := scanHoldsRow.holds Try.pinned (OpenSpec.ofChange scanHoldsWrong)

/- THE SECOND FORM. 'bulk': how many values and letters a reading holds, each counted each time it is reached (what is shared counts as often as it is met; a slice's spare places count too). A statement '..UptoSaid' is the law's where the arguments, and the package variables that the reading takes, are together of bulk at most 1048576: NARROWER than '..Said'. Prove '..Said' where nothing that the law and all that it calls make is longer than what came in: it says more and counts as full. Else prove '..UptoSaid'. A law counts once. -/
mutual
def uptoBulk {H : Type} : DataW H → Nat
  | .lit (.string bytes) => bytes.length + 1
  | .lit _ => 1
  | .nil => 1
  | .ptr d => uptoBulk d + 1
  | .slice elems spare => uptoBulkAll elems + uptoBulkAll spare + 1
  | .agg parts => uptoBulkAll parts + 1
  | .iface _ d => uptoBulk d + 1
  | .map entries => uptoBulkEntries entries + 1
  | .held _ => 1
def uptoBulkAll {H : Type} : List (DataW H) → Nat
  | [] => 0
  | d :: r => uptoBulk d + uptoBulkAll r
def uptoBulkEntries {H : Type} : List (Lit × DataW H) → Nat
  | [] => 0
  | x :: r => uptoBulkEntry x + uptoBulkEntries r
def uptoBulkEntry {H : Type} : Lit × DataW H → Nat
  | (.string bytes, d) => bytes.length + uptoBulk d + 1
  | (_, d) => uptoBulk d + 1
 end
def uptoSmall : (H : Type) → List (DataW H) → Bool := fun _ ds => decide (uptoBulkAll ds ≤ 1048576)
def OpenSpec.upto (s : _root_.Go.ChangeSpec) : _root_.Go.OpenSpec := { _root_.Go.OpenSpec.ofChange s with cond := some uptoSmall }

/-- 'annalistlaw28.ScanBounds', WHERE WHAT IT READS IS OF BULK AT MOST 1048576: true; the input reads as it did. -/
def scanBoundsUptoRow : OpenClaim := { program := "ytcilkdohpcmbgaa", sum := "60ae55d988627b614147acfb59eb69364e7534225097d8cb001a4970ca52b5c7", func := "annalist/annalistlaw28.ScanBounds", spec := "scanBounds", unfollowed := true, recurses := true, loops := true, apart := false, narrowed := true }
def ScanBoundsUptoSaid : Prop := scanBoundsUptoRow.holds Try.pinned (OpenSpec.upto scanBoundsSpec)

/-- 'annalistlaw28.ScanChooses', WHERE WHAT IT READS IS OF BULK AT MOST 1048576: true; the input reads as it did. -/
def scanChoosesUptoRow : OpenClaim := { program := "ytcilkdohpcmbgaa", sum := "60ae55d988627b614147acfb59eb69364e7534225097d8cb001a4970ca52b5c7", func := "annalist/annalistlaw28.ScanChooses", spec := "scanChooses", unfollowed := true, recurses := true, apart := false, narrowed := true }
def ScanChoosesUptoSaid : Prop := scanChoosesUptoRow.holds Try.pinned (OpenSpec.upto scanChoosesSpec)

/-- 'annalistlaw28.ScanHolds', WHERE WHAT IT READS IS OF BULK AT MOST 1048576: true; the input reads as it did. -/
def scanHoldsUptoRow : OpenClaim := { program := "ytcilkdohpcmbgaa", sum := "60ae55d988627b614147acfb59eb69364e7534225097d8cb001a4970ca52b5c7", func := "annalist/annalistlaw28.ScanHolds", spec := "scanHolds", unfollowed := true, recurses := true, loops := true, apart := false, narrowed := true }
def ScanHoldsUptoSaid : Prop := scanHoldsUptoRow.holds Try.pinned (OpenSpec.upto scanHoldsSpec)

end Rows
end Go.Proofs.Ytcilkdohpcmbgaa
