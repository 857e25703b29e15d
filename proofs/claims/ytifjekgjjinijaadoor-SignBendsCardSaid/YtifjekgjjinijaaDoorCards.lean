/-
  DERIVED. GIVEN WITH THE SEED: THE CARDS: each row of YtifjekgjjinijaaDoorRows.lean that lists a variable, with what it lists TIED to the program's text (the seventh form; the later family's looks); each row that meets fmt, with fmt's text TOLD by the authors' own Lean function (tested against real Go, not proved from fmt's source: count such statements apart). THE CARD IS WHAT COUNTS. Prove the row's statement (the work); the ties are given (YtifjekgjjinijaaDoorTie.lean); close each card by the builder's one call (the guide's Derived/Test/ToyasCard.lean, 'card_holds'). Laid BY PROGRAM, IN A SANDBOX (cutbox-door.mjs). By AI agents, Wed Nov 11 2026. No macro, syntax, notation, axiom, sorry.
-/
import Derived.Test.YtifjekgjjinijaaDoorRows
import GoSem.ClaimSeven
namespace Go.Proofs.YtifjekgjjinijaaDoor
namespace Rows

/-- THE TIED CARD OF 'fellowshiplaw13.SignBends'. -/
def signBendsCard : Claim7 := { stood := { row := signBendsRow, standIns := [], harness := (true, "8d4c928c8443db13df4f904c020715f687390ee6b2d2f4d53e502f6b461ff1ea"), looks := false }, kinds := [], alts := [], laidByText := true, laidKinds := [.sentinel, .data, .data, .data], laidTests := true, laidLooks := .later }
def SignBendsCardSaid : Prop := Claim7.holds Tryd.pinned (.plain (OpenSpec.ofChange signBendsSpec)) signBendsCard

/-- THE SECOND FORM's CARD OF 'fellowshiplaw13.SignBends'. -/
def signBendsUptoCard : Claim7 := { stood := { row := signBendsUptoRow, standIns := [], harness := (true, "8d4c928c8443db13df4f904c020715f687390ee6b2d2f4d53e502f6b461ff1ea"), looks := false }, kinds := [], alts := [], laidByText := true, laidKinds := [.sentinel, .data, .data, .data], laidTests := true, laidLooks := .later }
def SignBendsUptoCardSaid : Prop := Claim7.holds Tryd.pinned (.plain (OpenSpec.upto signBendsSpec)) signBendsUptoCard
end Rows
end Go.Proofs.YtifjekgjjinijaaDoor
