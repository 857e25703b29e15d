/-
  DERIVED. GIVEN WITH THE SEED: THE PROGRAM's TIES (one call each: nine closed facts by the kernel) AND EACH ROW's TIE, after the 31st guide's Derived/Test/Toyas{Tie, Card}.lean. No idea stands in it: it is a product of the set-up. Laid BY PROGRAM, IN A SANDBOX (cutbox-door.mjs). By AI agents, Wed Nov 11 2026. No macro, syntax, notation, axiom, sorry.
-/
import Derived.Test.YtaolikaifggkgaaDoorRows
import Derived.LaidByTextLater
import Derived.SevenTiedAt
import Derived.LaidSub
import Derived.LaidOnce
namespace Go.Proofs.YtaolikaifggkgaaDoor
open Go
set_option maxRecDepth 100000
theorem seatTie1 : Tryd.prog.laidByTextLater [("fellowship/api.ErrRange", Rows.laid_fellowship_api_ErrRange), ("fellowship/api.ErrPath", Rows.laid_fellowship_api_ErrPath), ("fellowship/api.ErrState", Rows.laid_fellowship_api_ErrState), ("fellowship/api.ErrTwice", Rows.laid_fellowship_api_ErrTwice)] [.sentinel, .sentinel, .sentinel, .sentinel] true :=
  Program.laidByTextLater_by_one 85 8 2 (by kernel_rfl) (by kernel_rfl) (by kernel_rfl) (by kernel_rfl) (by kernel_rfl) (by kernel_rfl) (fun _ _ => by kernel_rfl)
theorem noOwnUnsafe : Tryd.pinned.checked.prog.headLifts.contains "ownunsafe" = false := by kernel_rfl
theorem tie : Tryd.prog.laidByTextLater [("fellowship/api.ErrPath", Rows.laid_fellowship_api_ErrPath), ("fellowship/api.ErrState", Rows.laid_fellowship_api_ErrState), ("fellowship/api.ErrTwice", Rows.laid_fellowship_api_ErrTwice)] [.sentinel, .sentinel, .sentinel] true :=
  Program.laidByTextLater.sub seatTie1 ["fellowship/api.ErrPath", "fellowship/api.ErrState", "fellowship/api.ErrTwice"] (by kernel_rfl) (by kernel_rfl)
theorem forestOf_row_tie : Rows.forestOfRow.laidByTextAt .later Tryd.pinned [.sentinel, .sentinel, .sentinel] true :=
  OpenClaim.laidByTextAt_later rfl rfl tie noOwnUnsafe
theorem forestMeets_row_tie : Rows.forestMeetsRow.laidByTextAt .later Tryd.pinned [.sentinel, .sentinel, .sentinel] true :=
  OpenClaim.laidByTextAt_later rfl rfl tie noOwnUnsafe
theorem tie2 : Tryd.prog.laidByTextLater [("fellowship/api.ErrRange", Rows.laid_fellowship_api_ErrRange), ("fellowship/api.ErrPath", Rows.laid_fellowship_api_ErrPath), ("fellowship/api.ErrState", Rows.laid_fellowship_api_ErrState), ("fellowship/api.ErrTwice", Rows.laid_fellowship_api_ErrTwice)] [.sentinel, .sentinel, .sentinel, .sentinel] true :=
  Program.laidByTextLater.sub seatTie1 ["fellowship/api.ErrRange", "fellowship/api.ErrPath", "fellowship/api.ErrState", "fellowship/api.ErrTwice"] (by kernel_rfl) (by kernel_rfl)
theorem forestChains_row_tie : Rows.forestChainsRow.laidByTextAt .later Tryd.pinned [.sentinel, .sentinel, .sentinel, .sentinel] true :=
  OpenClaim.laidByTextAt_later rfl rfl tie2 noOwnUnsafe
theorem forestOfUpto_row_tie : Rows.forestOfUptoRow.laidByTextAt .later Tryd.pinned [.sentinel, .sentinel, .sentinel] true :=
  OpenClaim.laidByTextAt_later rfl rfl tie noOwnUnsafe
theorem forestChainsUpto_row_tie : Rows.forestChainsUptoRow.laidByTextAt .later Tryd.pinned [.sentinel, .sentinel, .sentinel, .sentinel] true :=
  OpenClaim.laidByTextAt_later rfl rfl tie2 noOwnUnsafe
theorem forestMeetsUpto_row_tie : Rows.forestMeetsUptoRow.laidByTextAt .later Tryd.pinned [.sentinel, .sentinel, .sentinel] true :=
  OpenClaim.laidByTextAt_later rfl rfl tie noOwnUnsafe
end Go.Proofs.YtaolikaifggkgaaDoor
