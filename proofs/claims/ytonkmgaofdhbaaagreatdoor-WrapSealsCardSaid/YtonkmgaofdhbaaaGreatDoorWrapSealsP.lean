/-
  Part of a proof: WrapSealsP.
-/
import Derived.Test.YtonkmgaofdhbaaaGreatDoorWpD
import Derived.Test.YtonkmgaofdhbaaaGreatDoorWrapSealsS
set_option linter.unusedVariables false
set_option linter.unusedSimpArgs false
namespace Go.Eng
theorem b73 {l:List Int} (h:∀ y∈l,IntKind.u8.min≤y/\y≤IntKind.u8.max):p9 256 l:=Ny fun y hy=>by
 have:=h y hy
 simp only [IntKind.min,IntKind.max,IntKind.signed,IntKind.bits] at this
 simp at this
 omega
theorem b74 {N:Nat} (a0:List Int) (h0:okA .u8 32 a0) (a1:z6) (h1:a1.ok N) (a2:List Int) (h2:okB .u8 N a2):Av a0 a1 a2=some true :=
 d35 (b73 h0.2) h0.1 (b73 h1.1.2) (b73 h1.2.1.2) (b73 h1.2.2.1.2) (b73 h2.2)
end Go.Eng
