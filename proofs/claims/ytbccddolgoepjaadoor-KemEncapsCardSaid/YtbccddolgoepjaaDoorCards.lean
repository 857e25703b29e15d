/-
  DERIVED. GIVEN WITH THE SEED: THE CARDS: each row of YtbccddolgoepjaaDoorRows.lean that lists a variable, with what it lists TIED to the program's text (the seventh form; the later family's looks); each row that meets fmt, with fmt's text TOLD by the authors' own Lean function (tested against real Go, not proved from fmt's source: count such statements apart). THE CARD IS WHAT COUNTS. Prove the row's statement (the work); the ties are given (YtbccddolgoepjaaDoorTie.lean); close each card by the builder's one call (the guide's Derived/Test/ToyasCard.lean, 'card_holds'). Laid BY PROGRAM, IN A SANDBOX (cutbox-door.mjs). By AI agents, Wed Nov 11 2026. No macro, syntax, notation, axiom, sorry.
-/
import Derived.Test.YtbccddolgoepjaaDoorRows
import GoSem.ClaimSeven
namespace Go.Proofs.YtbccddolgoepjaaDoor
namespace Rows

/-- THE TIED CARD OF 'fellowshiplaw08.SealSeals'. -/
def sealSealsCard : Claim7 := { stood := { row := sealSealsRow, standIns := [], harness := (true, "3301d19dd27b95d7308c75eed84fff506b58d835ab2e4497e44b636f42ac4ead"), looks := true }, kinds := [], alts := [], laidByText := true, laidKinds := [.sentinel, .sentinel, .sentinel, .sentinel, .sentinel, .sentinel, .sentinel, .sentinel, .sentinel, .sentinel, .sentinel, .sentinel, .sentinel, .sentinel, .sentinel, .sentinel, .sentinel, .sentinel, .sentinel], laidTests := true, laidLooks := .later }
def SealSealsCardSaid : Prop := Claim7.holds Tryd.pinned (.plain (OpenSpec.ofChange sealSealsSpec)) sealSealsCard

/-- THE TIED CARD OF 'fellowshiplaw08.SealOpens'. -/
def sealOpensCard : Claim7 := { stood := { row := sealOpensRow, standIns := [], harness := (true, "3301d19dd27b95d7308c75eed84fff506b58d835ab2e4497e44b636f42ac4ead"), looks := true }, kinds := [], alts := [], laidByText := true, laidKinds := [.sentinel, .sentinel, .sentinel, .sentinel, .sentinel, .sentinel, .sentinel, .sentinel, .sentinel, .sentinel, .sentinel, .sentinel, .sentinel, .sentinel, .sentinel, .sentinel, .sentinel, .sentinel, .sentinel], laidTests := true, laidLooks := .later }
def SealOpensCardSaid : Prop := Claim7.holds Tryd.pinned (.plain (OpenSpec.ofChange sealOpensSpec)) sealOpensCard

/-- THE TIED CARD OF 'fellowshiplaw08.SealTags'. -/
def sealTagsCard : Claim7 := { stood := { row := sealTagsRow, standIns := [], harness := (true, "3301d19dd27b95d7308c75eed84fff506b58d835ab2e4497e44b636f42ac4ead"), looks := true }, kinds := [], alts := [], laidByText := true, laidKinds := [.sentinel, .sentinel, .sentinel, .sentinel, .sentinel, .sentinel, .sentinel, .sentinel, .sentinel, .sentinel, .sentinel, .sentinel, .sentinel, .sentinel, .sentinel, .sentinel, .sentinel, .sentinel, .sentinel], laidTests := true, laidLooks := .later }
def SealTagsCardSaid : Prop := Claim7.holds Tryd.pinned (.plain (OpenSpec.ofChange sealTagsSpec)) sealTagsCard

/-- THE TIED CARD OF 'fellowshiplaw08.SealBounds'. -/
def sealBoundsCard : Claim7 := { stood := { row := sealBoundsRow, standIns := [], harness := (true, "3301d19dd27b95d7308c75eed84fff506b58d835ab2e4497e44b636f42ac4ead"), looks := true }, kinds := [], alts := [], laidByText := true, laidKinds := [.sentinel, .sentinel, .sentinel, .sentinel, .sentinel, .sentinel, .sentinel, .sentinel, .sentinel, .sentinel, .sentinel, .sentinel, .sentinel, .sentinel, .sentinel, .sentinel, .sentinel, .sentinel, .sentinel], laidTests := true, laidLooks := .later }
def SealBoundsCardSaid : Prop := Claim7.holds Tryd.pinned (.plain (OpenSpec.ofChange sealBoundsSpec)) sealBoundsCard

/-- THE TIED CARD OF 'fellowshiplaw14.KemPairs'. -/
def kemPairsCard : Claim7 := { stood := { row := kemPairsRow, standIns := [], harness := (true, "3301d19dd27b95d7308c75eed84fff506b58d835ab2e4497e44b636f42ac4ead"), looks := true }, kinds := [], alts := [], laidByText := true, laidKinds := [.sentinel, .sentinel, .sentinel, .sentinel, .sentinel, .sentinel, .sentinel, .sentinel, .sentinel, .sentinel, .sentinel, .sentinel, .sentinel, .sentinel, .sentinel, .sentinel, .sentinel, .sentinel, .sentinel, .data, .data], laidTests := true, laidLooks := .later }
def KemPairsCardSaid : Prop := Claim7.holds Tryd.pinned (.plain (OpenSpec.ofChange kemPairsSpec)) kemPairsCard

/-- THE TIED CARD OF 'fellowshiplaw14.KemEncaps'. -/
def kemEncapsCard : Claim7 := { stood := { row := kemEncapsRow, standIns := [], harness := (true, "3301d19dd27b95d7308c75eed84fff506b58d835ab2e4497e44b636f42ac4ead"), looks := true }, kinds := [], alts := [], laidByText := true, laidKinds := [.sentinel, .sentinel, .sentinel, .sentinel, .sentinel, .sentinel, .sentinel, .sentinel, .sentinel, .sentinel, .sentinel, .sentinel, .sentinel, .sentinel, .sentinel, .sentinel, .sentinel, .sentinel, .sentinel, .data, .data], laidTests := true, laidLooks := .later }
def KemEncapsCardSaid : Prop := Claim7.holds Tryd.pinned (.plain (OpenSpec.ofChange kemEncapsSpec)) kemEncapsCard

/-- THE TIED CARD OF 'fellowshiplaw14.KemMeets'. -/
def kemMeetsCard : Claim7 := { stood := { row := kemMeetsRow, standIns := [], harness := (true, "3301d19dd27b95d7308c75eed84fff506b58d835ab2e4497e44b636f42ac4ead"), looks := true }, kinds := [], alts := [], laidByText := true, laidKinds := [.sentinel, .sentinel, .sentinel, .sentinel, .sentinel, .sentinel, .sentinel, .sentinel, .sentinel, .sentinel, .sentinel, .sentinel, .sentinel, .sentinel, .sentinel, .sentinel, .sentinel, .sentinel, .sentinel, .data, .data], laidTests := true, laidLooks := .later }
def KemMeetsCardSaid : Prop := Claim7.holds Tryd.pinned (.plain (OpenSpec.ofChange kemMeetsSpec)) kemMeetsCard

/-- THE TIED CARD OF 'fellowshiplaw13.SignBends'. -/
def signBendsCard : Claim7 := { stood := { row := signBendsRow, standIns := [], harness := (true, "3301d19dd27b95d7308c75eed84fff506b58d835ab2e4497e44b636f42ac4ead"), looks := true }, kinds := [], alts := [], laidByText := true, laidKinds := [.sentinel, .data, .data, .data], laidTests := true, laidLooks := .later }
def SignBendsCardSaid : Prop := Claim7.holds Tryd.pinned (.plain (OpenSpec.ofChange signBendsSpec)) signBendsCard

/-- THE SECOND FORM's CARD OF 'fellowshiplaw08.SealSeals'. -/
def sealSealsUptoCard : Claim7 := { stood := { row := sealSealsUptoRow, standIns := [], harness := (true, "3301d19dd27b95d7308c75eed84fff506b58d835ab2e4497e44b636f42ac4ead"), looks := true }, kinds := [], alts := [], laidByText := true, laidKinds := [.sentinel, .sentinel, .sentinel, .sentinel, .sentinel, .sentinel, .sentinel, .sentinel, .sentinel, .sentinel, .sentinel, .sentinel, .sentinel, .sentinel, .sentinel, .sentinel, .sentinel, .sentinel, .sentinel], laidTests := true, laidLooks := .later }
def SealSealsUptoCardSaid : Prop := Claim7.holds Tryd.pinned (.plain (OpenSpec.upto sealSealsSpec)) sealSealsUptoCard

/-- THE SECOND FORM's CARD OF 'fellowshiplaw08.SealOpens'. -/
def sealOpensUptoCard : Claim7 := { stood := { row := sealOpensUptoRow, standIns := [], harness := (true, "3301d19dd27b95d7308c75eed84fff506b58d835ab2e4497e44b636f42ac4ead"), looks := true }, kinds := [], alts := [], laidByText := true, laidKinds := [.sentinel, .sentinel, .sentinel, .sentinel, .sentinel, .sentinel, .sentinel, .sentinel, .sentinel, .sentinel, .sentinel, .sentinel, .sentinel, .sentinel, .sentinel, .sentinel, .sentinel, .sentinel, .sentinel], laidTests := true, laidLooks := .later }
def SealOpensUptoCardSaid : Prop := Claim7.holds Tryd.pinned (.plain (OpenSpec.upto sealOpensSpec)) sealOpensUptoCard

/-- THE SECOND FORM's CARD OF 'fellowshiplaw08.SealTags'. -/
def sealTagsUptoCard : Claim7 := { stood := { row := sealTagsUptoRow, standIns := [], harness := (true, "3301d19dd27b95d7308c75eed84fff506b58d835ab2e4497e44b636f42ac4ead"), looks := true }, kinds := [], alts := [], laidByText := true, laidKinds := [.sentinel, .sentinel, .sentinel, .sentinel, .sentinel, .sentinel, .sentinel, .sentinel, .sentinel, .sentinel, .sentinel, .sentinel, .sentinel, .sentinel, .sentinel, .sentinel, .sentinel, .sentinel, .sentinel], laidTests := true, laidLooks := .later }
def SealTagsUptoCardSaid : Prop := Claim7.holds Tryd.pinned (.plain (OpenSpec.upto sealTagsSpec)) sealTagsUptoCard

/-- THE SECOND FORM's CARD OF 'fellowshiplaw08.SealBounds'. -/
def sealBoundsUptoCard : Claim7 := { stood := { row := sealBoundsUptoRow, standIns := [], harness := (true, "3301d19dd27b95d7308c75eed84fff506b58d835ab2e4497e44b636f42ac4ead"), looks := true }, kinds := [], alts := [], laidByText := true, laidKinds := [.sentinel, .sentinel, .sentinel, .sentinel, .sentinel, .sentinel, .sentinel, .sentinel, .sentinel, .sentinel, .sentinel, .sentinel, .sentinel, .sentinel, .sentinel, .sentinel, .sentinel, .sentinel, .sentinel], laidTests := true, laidLooks := .later }
def SealBoundsUptoCardSaid : Prop := Claim7.holds Tryd.pinned (.plain (OpenSpec.upto sealBoundsSpec)) sealBoundsUptoCard

/-- THE SECOND FORM's CARD OF 'fellowshiplaw14.KemPairs'. -/
def kemPairsUptoCard : Claim7 := { stood := { row := kemPairsUptoRow, standIns := [], harness := (true, "3301d19dd27b95d7308c75eed84fff506b58d835ab2e4497e44b636f42ac4ead"), looks := true }, kinds := [], alts := [], laidByText := true, laidKinds := [.sentinel, .sentinel, .sentinel, .sentinel, .sentinel, .sentinel, .sentinel, .sentinel, .sentinel, .sentinel, .sentinel, .sentinel, .sentinel, .sentinel, .sentinel, .sentinel, .sentinel, .sentinel, .sentinel, .data, .data], laidTests := true, laidLooks := .later }
def KemPairsUptoCardSaid : Prop := Claim7.holds Tryd.pinned (.plain (OpenSpec.upto kemPairsSpec)) kemPairsUptoCard

/-- THE SECOND FORM's CARD OF 'fellowshiplaw14.KemEncaps'. -/
def kemEncapsUptoCard : Claim7 := { stood := { row := kemEncapsUptoRow, standIns := [], harness := (true, "3301d19dd27b95d7308c75eed84fff506b58d835ab2e4497e44b636f42ac4ead"), looks := true }, kinds := [], alts := [], laidByText := true, laidKinds := [.sentinel, .sentinel, .sentinel, .sentinel, .sentinel, .sentinel, .sentinel, .sentinel, .sentinel, .sentinel, .sentinel, .sentinel, .sentinel, .sentinel, .sentinel, .sentinel, .sentinel, .sentinel, .sentinel, .data, .data], laidTests := true, laidLooks := .later }
def KemEncapsUptoCardSaid : Prop := Claim7.holds Tryd.pinned (.plain (OpenSpec.upto kemEncapsSpec)) kemEncapsUptoCard

/-- THE SECOND FORM's CARD OF 'fellowshiplaw14.KemMeets'. -/
def kemMeetsUptoCard : Claim7 := { stood := { row := kemMeetsUptoRow, standIns := [], harness := (true, "3301d19dd27b95d7308c75eed84fff506b58d835ab2e4497e44b636f42ac4ead"), looks := true }, kinds := [], alts := [], laidByText := true, laidKinds := [.sentinel, .sentinel, .sentinel, .sentinel, .sentinel, .sentinel, .sentinel, .sentinel, .sentinel, .sentinel, .sentinel, .sentinel, .sentinel, .sentinel, .sentinel, .sentinel, .sentinel, .sentinel, .sentinel, .data, .data], laidTests := true, laidLooks := .later }
def KemMeetsUptoCardSaid : Prop := Claim7.holds Tryd.pinned (.plain (OpenSpec.upto kemMeetsSpec)) kemMeetsUptoCard

/-- THE SECOND FORM's CARD OF 'fellowshiplaw13.SignBends'. -/
def signBendsUptoCard : Claim7 := { stood := { row := signBendsUptoRow, standIns := [], harness := (true, "3301d19dd27b95d7308c75eed84fff506b58d835ab2e4497e44b636f42ac4ead"), looks := true }, kinds := [], alts := [], laidByText := true, laidKinds := [.sentinel, .data, .data, .data], laidTests := true, laidLooks := .later }
def SignBendsUptoCardSaid : Prop := Claim7.holds Tryd.pinned (.plain (OpenSpec.upto signBendsSpec)) signBendsUptoCard
end Rows
end Go.Proofs.YtbccddolgoepjaaDoor
