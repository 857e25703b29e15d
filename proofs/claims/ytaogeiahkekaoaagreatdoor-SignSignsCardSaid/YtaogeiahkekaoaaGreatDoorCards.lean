/-
  DERIVED. GIVEN WITH THE SEED: THE CARDS: each row of YtaogeiahkekaoaaGreatDoorRows.lean that lists a variable, with what it lists TIED to the program's text (the seventh form; the later family's looks); each row that meets fmt, with fmt's text TOLD by the authors' own Lean function (tested against real Go, not proved from fmt's source: count such statements apart). THE CARD IS WHAT COUNTS. Prove the row's statement (the work); the ties are given (YtaogeiahkekaoaaGreatDoorTie.lean); close each card by the builder's one call (the guide's Derived/Test/ToyasCard.lean, 'card_holds'). Laid BY PROGRAM, IN A SANDBOX (cutbox-door.mjs). By AI agents, Wed Nov 11 2026. No macro, syntax, notation, axiom, sorry.
-/
import Derived.Test.YtaogeiahkekaoaaGreatDoorRows
import GoSem.ClaimSeven
namespace Go.Proofs.YtaogeiahkekaoaaGreatDoor
namespace Rows

/-- THE TIED CARD OF 'fellowshiplaw13.SignSigns'. -/
def signSignsCard : Claim7 := { stood := { row := signSignsRow, standIns := [], harness := (true, "9e8a34d0912bce6e90942a05a155382244c2e66bf5857413e2ddfbb400660733"), looks := false }, kinds := [], alts := [], laidByText := true, laidKinds := [.sentinel, .data, .data, .data], laidTests := true, laidLooks := .later }
def SignSignsCardSaid : Prop := Claim7.holds Tryz.pinned (.plain (OpenSpec.ofChange signSignsSpec)) signSignsCard

/-- THE TIED CARD OF 'fellowshiplaw13.SignVerifies'. -/
def signVerifiesCard : Claim7 := { stood := { row := signVerifiesRow, standIns := [], harness := (true, "9e8a34d0912bce6e90942a05a155382244c2e66bf5857413e2ddfbb400660733"), looks := false }, kinds := [], alts := [], laidByText := true, laidKinds := [.sentinel, .data, .data, .data], laidTests := true, laidLooks := .later }
def SignVerifiesCardSaid : Prop := Claim7.holds Tryz.pinned (.plain (OpenSpec.ofChange signVerifiesSpec)) signVerifiesCard

/-- THE SECOND FORM's CARD OF 'fellowshiplaw13.SignSigns'. -/
def signSignsUptoCard : Claim7 := { stood := { row := signSignsUptoRow, standIns := [], harness := (true, "9e8a34d0912bce6e90942a05a155382244c2e66bf5857413e2ddfbb400660733"), looks := false }, kinds := [], alts := [], laidByText := true, laidKinds := [.sentinel, .data, .data, .data], laidTests := true, laidLooks := .later }
def SignSignsUptoCardSaid : Prop := Claim7.holds Tryz.pinned (.plain (OpenSpec.upto signSignsSpec)) signSignsUptoCard

/-- THE SECOND FORM's CARD OF 'fellowshiplaw13.SignVerifies'. -/
def signVerifiesUptoCard : Claim7 := { stood := { row := signVerifiesUptoRow, standIns := [], harness := (true, "9e8a34d0912bce6e90942a05a155382244c2e66bf5857413e2ddfbb400660733"), looks := false }, kinds := [], alts := [], laidByText := true, laidKinds := [.sentinel, .data, .data, .data], laidTests := true, laidLooks := .later }
def SignVerifiesUptoCardSaid : Prop := Claim7.holds Tryz.pinned (.plain (OpenSpec.upto signVerifiesSpec)) signVerifiesUptoCard
end Rows
end Go.Proofs.YtaogeiahkekaoaaGreatDoor
