/-
  Part of a proof: WrapOpensP.
-/
import Derived.Test.YtonkmgaofdhbaaaGreatDoorWpD
import Derived.Test.YtonkmgaofdhbaaaGreatDoorWrapOpensS
set_option linter.unusedVariables false
set_option linter.unusedSimpArgs false
namespace Go.Eng
theorem d31 {l:List Int} (h:∀ y∈l,IntKind.u8.min≤y/\y≤IntKind.u8.max):q8 256 l:=Nl fun y hy=>by
 have:=h y hy
 simp only [IntKind.min,IntKind.max,IntKind.signed,IntKind.bits] at this
 simp at this
 omega
theorem b57 {N:Nat} (a0:List Int) (h0:okA .u8 32 a0) (a1:z6) (h1:a1.ok N) (a2:List Int) (h2:okB .u8 N a2):As a0 a1 a2=some true :=
 d20 (d31 h0.2) h0.1 (d31 h1.1.2) (d31 h1.2.1.2) (d31 h2.2)
end Go.Eng
