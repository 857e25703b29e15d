/-
  DERIVED. GIVEN WITH THE SEED: THE CARDS: each row of YtaolikaifggkgaaDoorRows.lean that lists a variable, with what it lists TIED to the program's text (the seventh form; the later family's looks); each row that meets fmt, with fmt's text TOLD by the authors' own Lean function (tested against real Go, not proved from fmt's source: count such statements apart). THE CARD IS WHAT COUNTS. Prove the row's statement (the work); the ties are given (YtaolikaifggkgaaDoorTie.lean); close each card by the builder's one call (the guide's Derived/Test/ToyasCard.lean, 'card_holds'). Laid BY PROGRAM, IN A SANDBOX (cutbox-door.mjs). By AI agents, Wed Nov 11 2026. No macro, syntax, notation, axiom, sorry.
-/
import Derived.Test.YtaolikaifggkgaaDoorRows
import GoSem.ClaimSeven
namespace Go.Proofs.YtaolikaifggkgaaDoor
namespace Rows

/-- THE TIED CARD OF 'fellowshiplaw31.ForestOf'. -/
def forestOfCard : Claim7 := { stood := { row := forestOfRow, standIns := [], harness := (true, "bdabb0c268df28748af026e7237c981513e24b5ff05ba1d4b2bd6511497cbd48"), looks := false }, kinds := [], alts := [], laidByText := true, laidKinds := [.sentinel, .sentinel, .sentinel], laidTests := true, laidLooks := .later }
def ForestOfCardSaid : Prop := Claim7.holds Tryd.pinned (.plain (OpenSpec.ofChange forestOfSpec)) forestOfCard

/-- THE TIED CARD OF 'fellowshiplaw31.ForestChains'. -/
def forestChainsCard : Claim7 := { stood := { row := forestChainsRow, standIns := [], harness := (true, "bdabb0c268df28748af026e7237c981513e24b5ff05ba1d4b2bd6511497cbd48"), looks := false }, kinds := [], alts := [], laidByText := true, laidKinds := [.sentinel, .sentinel, .sentinel, .sentinel], laidTests := true, laidLooks := .later }
def ForestChainsCardSaid : Prop := Claim7.holds Tryd.pinned (.plain (OpenSpec.ofChange forestChainsSpec)) forestChainsCard

/-- THE TIED CARD OF 'fellowshiplaw31.ForestMeets'. -/
def forestMeetsCard : Claim7 := { stood := { row := forestMeetsRow, standIns := [], harness := (true, "bdabb0c268df28748af026e7237c981513e24b5ff05ba1d4b2bd6511497cbd48"), looks := false }, kinds := [], alts := [], laidByText := true, laidKinds := [.sentinel, .sentinel, .sentinel], laidTests := true, laidLooks := .later }
def ForestMeetsCardSaid : Prop := Claim7.holds Tryd.pinned (.plain (OpenSpec.ofChange forestMeetsSpec)) forestMeetsCard

/-- THE SECOND FORM's CARD OF 'fellowshiplaw31.ForestOf'. -/
def forestOfUptoCard : Claim7 := { stood := { row := forestOfUptoRow, standIns := [], harness := (true, "bdabb0c268df28748af026e7237c981513e24b5ff05ba1d4b2bd6511497cbd48"), looks := false }, kinds := [], alts := [], laidByText := true, laidKinds := [.sentinel, .sentinel, .sentinel], laidTests := true, laidLooks := .later }
def ForestOfUptoCardSaid : Prop := Claim7.holds Tryd.pinned (.plain (OpenSpec.upto forestOfSpec)) forestOfUptoCard

/-- THE SECOND FORM's CARD OF 'fellowshiplaw31.ForestChains'. -/
def forestChainsUptoCard : Claim7 := { stood := { row := forestChainsUptoRow, standIns := [], harness := (true, "bdabb0c268df28748af026e7237c981513e24b5ff05ba1d4b2bd6511497cbd48"), looks := false }, kinds := [], alts := [], laidByText := true, laidKinds := [.sentinel, .sentinel, .sentinel, .sentinel], laidTests := true, laidLooks := .later }
def ForestChainsUptoCardSaid : Prop := Claim7.holds Tryd.pinned (.plain (OpenSpec.upto forestChainsSpec)) forestChainsUptoCard

/-- THE SECOND FORM's CARD OF 'fellowshiplaw31.ForestMeets'. -/
def forestMeetsUptoCard : Claim7 := { stood := { row := forestMeetsUptoRow, standIns := [], harness := (true, "bdabb0c268df28748af026e7237c981513e24b5ff05ba1d4b2bd6511497cbd48"), looks := false }, kinds := [], alts := [], laidByText := true, laidKinds := [.sentinel, .sentinel, .sentinel], laidTests := true, laidLooks := .later }
def ForestMeetsUptoCardSaid : Prop := Claim7.holds Tryd.pinned (.plain (OpenSpec.upto forestMeetsSpec)) forestMeetsUptoCard
end Rows
end Go.Proofs.YtaolikaifggkgaaDoor
