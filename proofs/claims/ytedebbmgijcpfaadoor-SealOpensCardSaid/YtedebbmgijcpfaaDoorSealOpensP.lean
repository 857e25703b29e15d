/-
  Part of a proof: SealOpensP.
-/
import Derived.Test.YtedebbmgijcpfaaDoorSelQ2
import Derived.Test.YtedebbmgijcpfaaDoorSealOpensS
set_option linter.unusedVariables false
set_option linter.unusedSimpArgs false
namespace Go.Eng
theorem ok_byt {l : List Int} (h : ∀ y ∈ l, IntKind.u8.min ≤ y /\ y ≤ IntKind.u8.max) : byt l := fun y hy => by
 have := h y hy
 simp only [IntKind.min, IntKind.max, IntKind.signed, IntKind.bits] at this
 simp at this
 omega
theorem sealOpens_true {N : Nat} (a0 : T_fl08_Case) (h0 : T_fl08_Case.ok N a0) (a1 : List Int) (h1 : okB .u8 N a1) : fl08_SealOpens a0 a1 = some true :=
 Opens_is h0.1.1 (ok_byt h0.1.2) (ok_byt h0.2.1.2) (ok_byt h0.2.2.1.2) (ok_byt h1.2)
end Go.Eng
