/-
  DERIVED. GIVEN WITH THE SEED: THE CARDS: each row of YtgpnockjonicpaaGreatDoorRows.lean that lists a variable, with what it lists TIED to the program's text (the seventh form; the later family's looks); each row that meets fmt, with fmt's text TOLD by the authors' own Lean function (tested against real Go, not proved from fmt's source: count such statements apart). THE CARD IS WHAT COUNTS. Prove the row's statement (the work); the ties are given (YtgpnockjonicpaaGreatDoorTie.lean); close each card by the builder's one call (the guide's Derived/Test/ToyasCard.lean, 'card_holds'). Laid BY PROGRAM, IN A SANDBOX (cutbox-door.mjs). By AI agents, Wed Nov 11 2026. No macro, syntax, notation, axiom, sorry.
-/
import Derived.Test.YtgpnockjonicpaaGreatDoorRows
import GoSem.ClaimSeven
namespace Go.Proofs.YtgpnockjonicpaaGreatDoor
namespace Rows

/-- THE TIED CARD OF 'annalistlaw26.EventJoins'. -/
def eventJoinsCard : Claim7 := { stood := { row := eventJoinsRow, standIns := [], harness := (true, "5cdbfaf55e35f6beec9c32ba97a497b2117ea42b0604c451520563045069a203"), looks := false }, kinds := [], alts := [], laidByText := true, laidKinds := [.data, .pinned], laidTests := true, laidLooks := .later }
def EventJoinsCardSaid : Prop := Claim7.holds Tryz.pinned (.plain (OpenSpec.ofChange eventJoinsSpec)) eventJoinsCard

/-- THE TIED CARD OF 'annalistlaw26.EventPrints'. -/
def eventPrintsCard : Claim7 := { stood := { row := eventPrintsRow, standIns := [], harness := (true, "5cdbfaf55e35f6beec9c32ba97a497b2117ea42b0604c451520563045069a203"), looks := false }, kinds := [], alts := [], laidByText := true, laidKinds := [.data, .pinned], laidTests := true, laidLooks := .later }
def EventPrintsCardSaid : Prop := Claim7.holds Tryz.pinned (.plain (OpenSpec.ofChange eventPrintsSpec)) eventPrintsCard

/-- THE TIED CARD OF 'annalistlaw26.EventParses'. -/
def eventParsesCard : Claim7 := { stood := { row := eventParsesRow, standIns := [], harness := (true, "5cdbfaf55e35f6beec9c32ba97a497b2117ea42b0604c451520563045069a203"), looks := false }, kinds := [], alts := [], laidByText := true, laidKinds := [.data, .pinned], laidTests := true, laidLooks := .later }
def EventParsesCardSaid : Prop := Claim7.holds Tryz.pinned (.plain (OpenSpec.ofChange eventParsesSpec)) eventParsesCard

/-- THE SECOND FORM's CARD OF 'annalistlaw26.EventJoins'. -/
def eventJoinsUptoCard : Claim7 := { stood := { row := eventJoinsUptoRow, standIns := [], harness := (true, "5cdbfaf55e35f6beec9c32ba97a497b2117ea42b0604c451520563045069a203"), looks := false }, kinds := [], alts := [], laidByText := true, laidKinds := [.data, .pinned], laidTests := true, laidLooks := .later }
def EventJoinsUptoCardSaid : Prop := Claim7.holds Tryz.pinned (.plain (OpenSpec.upto eventJoinsSpec)) eventJoinsUptoCard

/-- THE SECOND FORM's CARD OF 'annalistlaw26.EventPrints'. -/
def eventPrintsUptoCard : Claim7 := { stood := { row := eventPrintsUptoRow, standIns := [], harness := (true, "5cdbfaf55e35f6beec9c32ba97a497b2117ea42b0604c451520563045069a203"), looks := false }, kinds := [], alts := [], laidByText := true, laidKinds := [.data, .pinned], laidTests := true, laidLooks := .later }
def EventPrintsUptoCardSaid : Prop := Claim7.holds Tryz.pinned (.plain (OpenSpec.upto eventPrintsSpec)) eventPrintsUptoCard

/-- THE SECOND FORM's CARD OF 'annalistlaw26.EventParses'. -/
def eventParsesUptoCard : Claim7 := { stood := { row := eventParsesUptoRow, standIns := [], harness := (true, "5cdbfaf55e35f6beec9c32ba97a497b2117ea42b0604c451520563045069a203"), looks := false }, kinds := [], alts := [], laidByText := true, laidKinds := [.data, .pinned], laidTests := true, laidLooks := .later }
def EventParsesUptoCardSaid : Prop := Claim7.holds Tryz.pinned (.plain (OpenSpec.upto eventParsesSpec)) eventParsesUptoCard
end Rows
end Go.Proofs.YtgpnockjonicpaaGreatDoor
