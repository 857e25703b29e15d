/-
  Part of a proof: SignSignsP.
-/
import Derived.Test.YtaogeiahkekaoaaGreatDoorSrV
import Derived.Test.YtaogeiahkekaoaaGreatDoorSignSignsS
set_option linter.unusedVariables false
set_option linter.unusedSimpArgs false
namespace Go.Eng
theorem ok_byt {l:List Int} (h:∀ y∈l,IntKind.u8.min≤y/\y≤IntKind.u8.max):byt l:=fun y hy=>by
 have:=h y hy
 simp only [IntKind.min,IntKind.max,IntKind.signed,IntKind.bits] at this
 simp at this
 omega
theorem signSigns_true {N:Nat} (a0:List Int) (h0:okA .u8 32 a0) (a1:List Int) (h1:okB .u8 N a1) (a2:List Int) (h2:okB .u8 N a2):fl13_SignSigns a0 a1 a2=some true :=
 SignSigns_is h0.1 (ok_byt h0.2) (ok_byt h1.2) (ok_byt h2.2)
end Go.Eng
