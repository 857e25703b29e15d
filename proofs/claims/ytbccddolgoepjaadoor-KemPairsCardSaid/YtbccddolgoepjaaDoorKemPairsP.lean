/-
  Part of a proof: KemPairsP.
-/
import Derived.Test.YtbccddolgoepjaaDoorKemS9
import Derived.Test.YtbccddolgoepjaaDoorKemPairsS
set_option linter.unusedVariables false
set_option linter.unusedSimpArgs false
namespace Go.Eng
theorem lim_okB {N : Nat} {l : List Int} (h : okB .u8 N l) : Lim 256 l := lim_of fun y hy => by
  have := h.2 y hy; simp only [IntKind.min, IntKind.max, IntKind.signed, IntKind.bits] at this; simp at this; omega
theorem kemPairs_true {N : Nat} (a0 : List Int) (h0 : okB .u8 N a0) (a1 : List Int) (h1 : okB .u8 N a1) : fl14_KemPairs a0 a1 = some true :=
  KemPairs_is (lim_okB h0) (lim_okB h1)
end Go.Eng
