/-
  Part of a proof: KemEncapsP.
-/
import Derived.Test.YtbccddolgoepjaaDoorKemS9
import Derived.Test.YtbccddolgoepjaaDoorKemEncapsS
set_option linter.unusedVariables false
set_option linter.unusedSimpArgs false
namespace Go.Eng
theorem lim_okB {N : Nat} {l : List Int} (h : okB .u8 N l) : Lim 256 l := lim_of fun y hy => by
 have := h.2 y hy; simp only [IntKind.min, IntKind.max, IntKind.signed, IntKind.bits] at this; simp at this; omega
theorem lim_okA {n : Nat} {l : List Int} (h : okA .u8 n l) : Lim 256 l := lim_of fun y hy => by
 have := h.2 y hy; simp only [IntKind.min, IntKind.max, IntKind.signed, IntKind.bits] at this; simp at this; omega
theorem kemEncaps_true {N : Nat} (a0 : List Int) (h0 : okA .u8 32 a0) (a1 : List Int) (h1 : okA .u8 32 a1) (a2 : List Int) (h2 : okB .u8 N a2) : fl14_KemEncaps a0 a1 a2 = some true :=
 KemEncaps_is (lim_okA h0) h0.1 (lim_okA h1) h1.1 (lim_okB h2)
end Go.Eng
