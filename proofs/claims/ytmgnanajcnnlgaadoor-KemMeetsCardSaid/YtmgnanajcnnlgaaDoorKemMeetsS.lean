/-
  Part of a proof: KemMeetsS.
-/
import Derived.Test.YtmgnanajcnnlgaaDoorEngD
import Derived.Test.YtmgnanajcnnlgaaDoorKemC2
set_option linter.unusedVariables false
set_option linter.unusedSimpArgs false
namespace Go.Eng
set_option maxRecDepth 100000
def dzs : Nat -> DV
 | _ => .nil
theorem kemMeets_arg0 {N : Nat} {x : DV} (h : Sh tab N dzs 2 22 x) : ∃ a : List Int, x = .roI .u8 a /\ okB .u8 N a := by
 replace h : Sh tab N dzs (0 + 2) 22 x := h
 generalize hd : (0 : Nat) = d at h
 obtain ⟨a, rfl, ga⟩ := h
 exact ⟨a, rfl, ga⟩
theorem kemMeets_arg1 {N : Nat} {x : DV} (h : Sh tab N dzs 2 22 x) : ∃ a : List Int, x = .roI .u8 a /\ okB .u8 N a := by
 replace h : Sh tab N dzs (0 + 2) 22 x := h
 generalize hd : (0 : Nat) = d at h
 obtain ⟨a, rfl, ga⟩ := h
 exact ⟨a, rfl, ga⟩
end Go.Eng
