/-
  Part of a proof: KemMeetsP.
-/
import Derived.Test.YtmgnanajcnnlgaaDoorKmD
import Derived.Test.YtmgnanajcnnlgaaDoorKemMeetsS
set_option linter.unusedVariables false
set_option linter.unusedSimpArgs false
namespace Go.Eng
theorem lim_okB {N : Nat} {l : List Int} (h : okB .u8 N l) : Lim 256 l := lim_of fun y hy => by
 have := h.2 y hy; simp only [IntKind.min, IntKind.max, IntKind.signed, IntKind.bits] at this; simp at this; omega
theorem kemMeets_true {N : Nat} (a0 : List Int) (h0 : okB .u8 N a0) (a1 : List Int) (h1 : okB .u8 N a1) : fl14_KemMeets a0 a1 = some true :=
 KemMeets_is (lim_okB h0) (lim_okB h1)
end Go.Eng
