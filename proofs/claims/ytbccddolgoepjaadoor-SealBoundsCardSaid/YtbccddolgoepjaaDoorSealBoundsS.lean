/-
  Part of a proof: SealBoundsS.
-/
import Derived.Test.YtbccddolgoepjaaDoorEngD
import Derived.Test.YtbccddolgoepjaaDoorSealC
set_option linter.unusedVariables false
set_option linter.unusedSimpArgs false
namespace Go.Eng
set_option maxRecDepth 100000
/-- What stands behind the rows. -/
def dzs : Nat → DV
  | _ => .nil

theorem sealBounds_arg0 {N : Nat} {x : DV} (h : Sh tab N dzs 2 23 x) : ∃ a : List Int, x = .ints .u8 32 a ∧ okA .u8 32 a := by
  replace h : Sh tab N dzs (0 + 2) 23 x := h
  generalize hd : (0 : Nat) = d at h
  obtain ⟨a, rfl, ga⟩ := h
  exact ⟨a, rfl, ga⟩
theorem sealBounds_arg1 {N : Nat} {x : DV} (h : Sh tab N dzs 1 3 x) : ∃ a : Int, x = .sc (.int .i64 a) ∧ okI .i64 a := by
  replace h : Sh tab N dzs (0 + 1) 3 x := h
  generalize hd : (0 : Nat) = d at h
  obtain ⟨a, rfl, ga⟩ := h
  exact ⟨a, rfl, ga⟩
end Go.Eng
