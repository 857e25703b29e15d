/-
  Part of a proof: KemS4.
-/
import Derived.Test.YtmgnanajcnnlgaaDoorKemS3
set_option linter.unusedVariables false
set_option linter.unusedSimpArgs false
namespace Go.Eng
set_option maxRecDepth 100000
set_option maxHeartbeats 1000000
end Go.Eng
