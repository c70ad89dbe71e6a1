/-
  DERIVED. GIVEN WITH THE SEED: THE CARDS: each row of YtgpnockjonicpaaDoorRows.lean that lists a variable, with what it lists TIED to the program's text (the seventh form; the later family's looks); each row that meets fmt, with fmt's text TOLD by the authors' own Lean function (tested against real Go, not proved from fmt's source: count such statements apart). THE CARD IS WHAT COUNTS. Prove the row's statement (the work); the ties are given (YtgpnockjonicpaaDoorTie.lean); close each card by the builder's one call (the guide's Derived/Test/ToyasCard.lean, 'card_holds'). Laid BY PROGRAM, IN A SANDBOX (cutbox-door.mjs). By AI agents, Wed Nov 11 2026. No macro, syntax, notation, axiom, sorry.
-/
import Derived.Test.YtgpnockjonicpaaDoorRows
import GoSem.ClaimSeven
namespace Go.Proofs.YtgpnockjonicpaaDoor
namespace Rows

/-- THE TIED CARD OF 'annalistlaw26.EventOf'. -/
def eventOfCard : Claim7 := { stood := { row := eventOfRow, standIns := [], harness := (true, "c8f4567aac6bcf1251861c9b5b15b46dec4b2a66125580d5bb73c4ca4f83005d"), looks := false }, kinds := [], alts := [], laidByText := true, laidKinds := [.data, .pinned], laidTests := true, laidLooks := .later }
def EventOfCardSaid : Prop := Claim7.holds Tryd.pinned (.plain (OpenSpec.ofChange eventOfSpec)) eventOfCard

/-- THE TIED CARD OF 'annalistlaw26.EventBack'. -/
def eventBackCard : Claim7 := { stood := { row := eventBackRow, standIns := [], harness := (true, "c8f4567aac6bcf1251861c9b5b15b46dec4b2a66125580d5bb73c4ca4f83005d"), looks := false }, kinds := [], alts := [], laidByText := true, laidKinds := [.data, .pinned], laidTests := true, laidLooks := .later }
def EventBackCardSaid : Prop := Claim7.holds Tryd.pinned (.plain (OpenSpec.ofChange eventBackSpec)) eventBackCard

/-- THE TIED CARD OF 'annalistlaw26.EventOnce'. -/
def eventOnceCard : Claim7 := { stood := { row := eventOnceRow, standIns := [], harness := (true, "c8f4567aac6bcf1251861c9b5b15b46dec4b2a66125580d5bb73c4ca4f83005d"), looks := false }, kinds := [], alts := [], laidByText := true, laidKinds := [.data, .pinned], laidTests := true, laidLooks := .later }
def EventOnceCardSaid : Prop := Claim7.holds Tryd.pinned (.plain (OpenSpec.ofChange eventOnceSpec)) eventOnceCard

/-- THE SECOND FORM's CARD OF 'annalistlaw26.EventOf'. -/
def eventOfUptoCard : Claim7 := { stood := { row := eventOfUptoRow, standIns := [], harness := (true, "c8f4567aac6bcf1251861c9b5b15b46dec4b2a66125580d5bb73c4ca4f83005d"), looks := false }, kinds := [], alts := [], laidByText := true, laidKinds := [.data, .pinned], laidTests := true, laidLooks := .later }
def EventOfUptoCardSaid : Prop := Claim7.holds Tryd.pinned (.plain (OpenSpec.upto eventOfSpec)) eventOfUptoCard

/-- THE SECOND FORM's CARD OF 'annalistlaw26.EventBack'. -/
def eventBackUptoCard : Claim7 := { stood := { row := eventBackUptoRow, standIns := [], harness := (true, "c8f4567aac6bcf1251861c9b5b15b46dec4b2a66125580d5bb73c4ca4f83005d"), looks := false }, kinds := [], alts := [], laidByText := true, laidKinds := [.data, .pinned], laidTests := true, laidLooks := .later }
def EventBackUptoCardSaid : Prop := Claim7.holds Tryd.pinned (.plain (OpenSpec.upto eventBackSpec)) eventBackUptoCard

/-- THE SECOND FORM's CARD OF 'annalistlaw26.EventOnce'. -/
def eventOnceUptoCard : Claim7 := { stood := { row := eventOnceUptoRow, standIns := [], harness := (true, "c8f4567aac6bcf1251861c9b5b15b46dec4b2a66125580d5bb73c4ca4f83005d"), looks := false }, kinds := [], alts := [], laidByText := true, laidKinds := [.data, .pinned], laidTests := true, laidLooks := .later }
def EventOnceUptoCardSaid : Prop := Claim7.holds Tryd.pinned (.plain (OpenSpec.upto eventOnceSpec)) eventOnceUptoCard
end Rows
end Go.Proofs.YtgpnockjonicpaaDoor
