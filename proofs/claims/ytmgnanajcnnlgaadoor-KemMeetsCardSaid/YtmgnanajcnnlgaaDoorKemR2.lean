/-
  Part of a proof: KemR2.
-/
import Derived.Test.YtmgnanajcnnlgaaDoorKemR1
set_option linter.unusedVariables false
set_option linter.unusedSimpArgs false
namespace Go.Eng
set_option maxRecDepth 100000
set_option maxHeartbeats 4000000
theorem lim_append {n : Int} : ∀ {a b : List Int}, Lim n a -> Lim n b -> Lim n (a ++ b)
 | [], _, _, h => h
 | _ :: _, _, ⟨h1, h2⟩, h => ⟨h1, lim_append h2 h⟩
end Go.Eng
