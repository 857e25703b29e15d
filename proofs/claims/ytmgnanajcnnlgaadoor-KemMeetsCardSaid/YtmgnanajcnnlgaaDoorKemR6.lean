/-
  Part of a proof: KemR6.
-/
import Derived.Test.YtmgnanajcnnlgaaDoorKemR5
set_option linter.unusedVariables false
set_option linter.unusedSimpArgs false
namespace Go.Eng
set_option maxRecDepth 100000
set_option maxHeartbeats 400000
end Go.Eng
