/-
  DERIVED. GIVEN WITH THE SEED: THE CARDS: each row of YtonkmgaofdhbaaaGreatDoorRows.lean that lists a variable, with what it lists TIED to the program's text (the seventh form; the later family's looks); each row that meets fmt, with fmt's text TOLD by the authors' own Lean function (tested against real Go, not proved from fmt's source: count such statements apart). THE CARD IS WHAT COUNTS. Prove the row's statement (the work); the ties are given (YtonkmgaofdhbaaaGreatDoorTie.lean); close each card by the builder's one call (the guide's Derived/Test/ToyasCard.lean, 'card_holds'). Laid BY PROGRAM, IN A SANDBOX (cutbox-door.mjs). By AI agents, Wed Nov 11 2026. No macro, syntax, notation, axiom, sorry.
-/
import Derived.Test.YtonkmgaofdhbaaaGreatDoorRows
import GoSem.ClaimSeven
namespace Go.Proofs.YtonkmgaofdhbaaaGreatDoor
namespace Rows

/-- THE TIED CARD OF 'fellowshiplaw15.WrapBacks'. -/
def wrapBacksCard : Claim7 := { stood := { row := wrapBacksRow, standIns := [], harness := (true, "52530e1991372f92dec4e3bb3a9eb940eb85f282e64c343275687052c4f5386e"), looks := true }, kinds := [], alts := [], laidByText := true, laidKinds := [.sentinel, .sentinel, .sentinel, .sentinel, .sentinel, .sentinel, .data, .data], laidTests := true, laidLooks := .later }
def WrapBacksCardSaid : Prop := Claim7.holds Tryz.pinned (.plain (OpenSpec.ofChange wrapBacksSpec)) wrapBacksCard

/-- THE TIED CARD OF 'fellowshiplaw15.WrapSeals'. -/
def wrapSealsCard : Claim7 := { stood := { row := wrapSealsRow, standIns := [], harness := (true, "52530e1991372f92dec4e3bb3a9eb940eb85f282e64c343275687052c4f5386e"), looks := true }, kinds := [], alts := [], laidByText := true, laidKinds := [.sentinel, .sentinel, .sentinel, .sentinel, .sentinel, .sentinel, .sentinel, .sentinel, .sentinel, .sentinel, .sentinel, .sentinel, .sentinel, .sentinel, .sentinel, .sentinel, .sentinel, .sentinel, .sentinel, .data, .data], laidTests := true, laidLooks := .later }
def WrapSealsCardSaid : Prop := Claim7.holds Tryz.pinned (.plain (OpenSpec.ofChange wrapSealsSpec)) wrapSealsCard

/-- THE TIED CARD OF 'fellowshiplaw15.WrapOpens'. -/
def wrapOpensCard : Claim7 := { stood := { row := wrapOpensRow, standIns := [], harness := (true, "52530e1991372f92dec4e3bb3a9eb940eb85f282e64c343275687052c4f5386e"), looks := true }, kinds := [], alts := [], laidByText := true, laidKinds := [.sentinel, .sentinel, .sentinel, .sentinel, .sentinel, .sentinel, .sentinel, .sentinel, .sentinel, .sentinel, .sentinel, .sentinel, .sentinel, .sentinel, .sentinel, .sentinel, .sentinel, .sentinel, .sentinel, .data, .data], laidTests := true, laidLooks := .later }
def WrapOpensCardSaid : Prop := Claim7.holds Tryz.pinned (.plain (OpenSpec.ofChange wrapOpensSpec)) wrapOpensCard

/-- THE SECOND FORM's CARD OF 'fellowshiplaw15.WrapBacks'. -/
def wrapBacksUptoCard : Claim7 := { stood := { row := wrapBacksUptoRow, standIns := [], harness := (true, "52530e1991372f92dec4e3bb3a9eb940eb85f282e64c343275687052c4f5386e"), looks := true }, kinds := [], alts := [], laidByText := true, laidKinds := [.sentinel, .sentinel, .sentinel, .sentinel, .sentinel, .sentinel, .data, .data], laidTests := true, laidLooks := .later }
def WrapBacksUptoCardSaid : Prop := Claim7.holds Tryz.pinned (.plain (OpenSpec.upto wrapBacksSpec)) wrapBacksUptoCard

/-- THE SECOND FORM's CARD OF 'fellowshiplaw15.WrapSeals'. -/
def wrapSealsUptoCard : Claim7 := { stood := { row := wrapSealsUptoRow, standIns := [], harness := (true, "52530e1991372f92dec4e3bb3a9eb940eb85f282e64c343275687052c4f5386e"), looks := true }, kinds := [], alts := [], laidByText := true, laidKinds := [.sentinel, .sentinel, .sentinel, .sentinel, .sentinel, .sentinel, .sentinel, .sentinel, .sentinel, .sentinel, .sentinel, .sentinel, .sentinel, .sentinel, .sentinel, .sentinel, .sentinel, .sentinel, .sentinel, .data, .data], laidTests := true, laidLooks := .later }
def WrapSealsUptoCardSaid : Prop := Claim7.holds Tryz.pinned (.plain (OpenSpec.upto wrapSealsSpec)) wrapSealsUptoCard

/-- THE SECOND FORM's CARD OF 'fellowshiplaw15.WrapOpens'. -/
def wrapOpensUptoCard : Claim7 := { stood := { row := wrapOpensUptoRow, standIns := [], harness := (true, "52530e1991372f92dec4e3bb3a9eb940eb85f282e64c343275687052c4f5386e"), looks := true }, kinds := [], alts := [], laidByText := true, laidKinds := [.sentinel, .sentinel, .sentinel, .sentinel, .sentinel, .sentinel, .sentinel, .sentinel, .sentinel, .sentinel, .sentinel, .sentinel, .sentinel, .sentinel, .sentinel, .sentinel, .sentinel, .sentinel, .sentinel, .data, .data], laidTests := true, laidLooks := .later }
def WrapOpensUptoCardSaid : Prop := Claim7.holds Tryz.pinned (.plain (OpenSpec.upto wrapOpensSpec)) wrapOpensUptoCard
end Rows
end Go.Proofs.YtonkmgaofdhbaaaGreatDoor
