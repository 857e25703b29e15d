/-
  DERIVED. GIVEN WITH THE SEED: THE CARDS: each row of YtmgnanajcnnlgaaDoorRows.lean that lists a variable, with what it lists TIED to the program's text (the seventh form; the later family's looks); each row that meets fmt, with fmt's text TOLD by the authors' own Lean function (tested against real Go, not proved from fmt's source: count such statements apart). THE CARD IS WHAT COUNTS. Prove the row's statement (the work); the ties are given (YtmgnanajcnnlgaaDoorTie.lean); close each card by the builder's one call (the guide's Derived/Test/ToyasCard.lean, 'card_holds'). Laid BY PROGRAM, IN A SANDBOX (cutbox-door.mjs). By AI agents, Wed Nov 11 2026. No macro, syntax, notation, axiom, sorry.
-/
import Derived.Test.YtmgnanajcnnlgaaDoorRows
import GoSem.ClaimSeven
namespace Go.Proofs.YtmgnanajcnnlgaaDoor
namespace Rows

/-- THE TIED CARD OF 'fellowshiplaw14.KemPairs'. -/
def kemPairsCard : Claim7 := { stood := { row := kemPairsRow, standIns := [], harness := (true, "bd1806d55a8a8412aa1b11c88d8aa268078ed658356027569a28973749fcc07d"), looks := true }, kinds := [], alts := [], laidByText := true, laidKinds := [.sentinel, .sentinel, .sentinel, .sentinel, .sentinel, .sentinel, .sentinel, .sentinel, .sentinel, .sentinel, .sentinel, .sentinel, .sentinel, .sentinel, .sentinel, .sentinel, .sentinel, .sentinel, .sentinel, .data, .data], laidTests := true, laidLooks := .later }
def KemPairsCardSaid : Prop := Claim7.holds Tryd.pinned (.plain (OpenSpec.ofChange kemPairsSpec)) kemPairsCard

/-- THE TIED CARD OF 'fellowshiplaw14.KemEncaps'. -/
def kemEncapsCard : Claim7 := { stood := { row := kemEncapsRow, standIns := [], harness := (true, "bd1806d55a8a8412aa1b11c88d8aa268078ed658356027569a28973749fcc07d"), looks := true }, kinds := [], alts := [], laidByText := true, laidKinds := [.sentinel, .sentinel, .sentinel, .sentinel, .sentinel, .sentinel, .sentinel, .sentinel, .sentinel, .sentinel, .sentinel, .sentinel, .sentinel, .sentinel, .sentinel, .sentinel, .sentinel, .sentinel, .sentinel, .data, .data], laidTests := true, laidLooks := .later }
def KemEncapsCardSaid : Prop := Claim7.holds Tryd.pinned (.plain (OpenSpec.ofChange kemEncapsSpec)) kemEncapsCard

/-- THE TIED CARD OF 'fellowshiplaw14.KemMeets'. -/
def kemMeetsCard : Claim7 := { stood := { row := kemMeetsRow, standIns := [], harness := (true, "bd1806d55a8a8412aa1b11c88d8aa268078ed658356027569a28973749fcc07d"), looks := true }, kinds := [], alts := [], laidByText := true, laidKinds := [.sentinel, .sentinel, .sentinel, .sentinel, .sentinel, .sentinel, .sentinel, .sentinel, .sentinel, .sentinel, .sentinel, .sentinel, .sentinel, .sentinel, .sentinel, .sentinel, .sentinel, .sentinel, .sentinel, .data, .data], laidTests := true, laidLooks := .later }
def KemMeetsCardSaid : Prop := Claim7.holds Tryd.pinned (.plain (OpenSpec.ofChange kemMeetsSpec)) kemMeetsCard

/-- THE SECOND FORM's CARD OF 'fellowshiplaw14.KemPairs'. -/
def kemPairsUptoCard : Claim7 := { stood := { row := kemPairsUptoRow, standIns := [], harness := (true, "bd1806d55a8a8412aa1b11c88d8aa268078ed658356027569a28973749fcc07d"), looks := true }, kinds := [], alts := [], laidByText := true, laidKinds := [.sentinel, .sentinel, .sentinel, .sentinel, .sentinel, .sentinel, .sentinel, .sentinel, .sentinel, .sentinel, .sentinel, .sentinel, .sentinel, .sentinel, .sentinel, .sentinel, .sentinel, .sentinel, .sentinel, .data, .data], laidTests := true, laidLooks := .later }
def KemPairsUptoCardSaid : Prop := Claim7.holds Tryd.pinned (.plain (OpenSpec.upto kemPairsSpec)) kemPairsUptoCard

/-- THE SECOND FORM's CARD OF 'fellowshiplaw14.KemEncaps'. -/
def kemEncapsUptoCard : Claim7 := { stood := { row := kemEncapsUptoRow, standIns := [], harness := (true, "bd1806d55a8a8412aa1b11c88d8aa268078ed658356027569a28973749fcc07d"), looks := true }, kinds := [], alts := [], laidByText := true, laidKinds := [.sentinel, .sentinel, .sentinel, .sentinel, .sentinel, .sentinel, .sentinel, .sentinel, .sentinel, .sentinel, .sentinel, .sentinel, .sentinel, .sentinel, .sentinel, .sentinel, .sentinel, .sentinel, .sentinel, .data, .data], laidTests := true, laidLooks := .later }
def KemEncapsUptoCardSaid : Prop := Claim7.holds Tryd.pinned (.plain (OpenSpec.upto kemEncapsSpec)) kemEncapsUptoCard

/-- THE SECOND FORM's CARD OF 'fellowshiplaw14.KemMeets'. -/
def kemMeetsUptoCard : Claim7 := { stood := { row := kemMeetsUptoRow, standIns := [], harness := (true, "bd1806d55a8a8412aa1b11c88d8aa268078ed658356027569a28973749fcc07d"), looks := true }, kinds := [], alts := [], laidByText := true, laidKinds := [.sentinel, .sentinel, .sentinel, .sentinel, .sentinel, .sentinel, .sentinel, .sentinel, .sentinel, .sentinel, .sentinel, .sentinel, .sentinel, .sentinel, .sentinel, .sentinel, .sentinel, .sentinel, .sentinel, .data, .data], laidTests := true, laidLooks := .later }
def KemMeetsUptoCardSaid : Prop := Claim7.holds Tryd.pinned (.plain (OpenSpec.upto kemMeetsSpec)) kemMeetsUptoCard
end Rows
end Go.Proofs.YtmgnanajcnnlgaaDoor
