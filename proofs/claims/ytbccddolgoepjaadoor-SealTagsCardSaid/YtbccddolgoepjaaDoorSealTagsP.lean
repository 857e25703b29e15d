/-
  Part of a proof: SealTagsP.
-/
import Derived.Test.YtbccddolgoepjaaDoorSealP7
import Derived.Test.YtbccddolgoepjaaDoorSealTagsS
set_option linter.unusedVariables false
set_option linter.unusedSimpArgs false
namespace Go.Eng
theorem sealTags_true {N : Nat} (a0 : T_fellowshiplaw08_Case) (h0 : T_fellowshiplaw08_Case.ok N a0) (a1 : List Int) (h1 : okB .u8 N a1) (a2 : Int) (h2 : okI .u8 a2) : fellowshiplaw08_SealTags a0 a1 a2 = some true :=
  Tags_is h0.1.1 (fun y hy => by have := h1.2 y hy; simp only [IntKind.min, IntKind.max, IntKind.signed, IntKind.bits] at this; simp at this; omega)
    (by have := h2; simp only [okI, IntKind.min, IntKind.max, IntKind.signed, IntKind.bits] at this; simp at this; omega)
end Go.Eng
