/-
  Part of a proof: KemP2.
-/
import Derived.Test.YtmgnanajcnnlgaaDoorKemP1
set_option linter.unusedVariables false
set_option linter.unusedSimpArgs false
namespace Go.Eng
set_option maxRecDepth 100000
set_option maxHeartbeats 1000000
end Go.Eng
