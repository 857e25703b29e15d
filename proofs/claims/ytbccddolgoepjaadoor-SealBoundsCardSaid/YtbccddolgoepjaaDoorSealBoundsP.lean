/-
  Part of a proof: SealBoundsP.
-/
import Derived.Test.YtbccddolgoepjaaDoorSealP7
import Derived.Test.YtbccddolgoepjaaDoorSealBoundsS
set_option linter.unusedVariables false
set_option linter.unusedSimpArgs false
namespace Go.Eng
theorem sealBounds_true (a0 : List Int) (h0 : okA .u8 32 a0) (a1 : Int) (_h1 : okI .i64 a1) : fellowshiplaw08_SealBounds a0 a1 = some true := by
  exact Bounds_is h0.1 a1
end Go.Eng
