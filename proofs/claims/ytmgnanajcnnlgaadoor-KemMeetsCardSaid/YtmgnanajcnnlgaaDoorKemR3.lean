/-
  Part of a proof: KemR3.
-/
import Derived.Test.YtmgnanajcnnlgaaDoorKemR2
set_option linter.unusedVariables false
set_option linter.unusedSimpArgs false
namespace Go.Eng
set_option maxRecDepth 100000
set_option maxHeartbeats 4000000
end Go.Eng
