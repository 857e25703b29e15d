/-
  Part of a proof: SealOpensS.
-/
import Derived.Test.YtedebbmgijcpfaaDoorEngD
import Derived.Test.YtedebbmgijcpfaaDoorSelC2
set_option linter.unusedVariables false
set_option linter.unusedSimpArgs false
namespace Go.Eng
set_option maxRecDepth 100000
def dzs : Nat -> DV
 | _ => .nil
def T_fl08_Case.ok (N : Nat) (x : T_fl08_Case) : Prop := okA .u8 32 x.fKey /\ okB .u8 N x.fNonce /\ okB .u8 N x.fWith /\ True
theorem T_fl08_Case.of_sh26 {N d : Nat} {x : DV} (h : Sh tab N dzs (d + 3) 26 x) : ∃ s : T_fl08_Case, x = s.dv /\ s.ok N := by
 obtain ⟨_, _, rfl, h0, _, _, rfl, h1, _, _, rfl, h2, rfl⟩ := h
 obtain ⟨a0, rfl, ga0⟩ := h0
 obtain ⟨a1, rfl, ga1⟩ := h1
 obtain ⟨a2, rfl, ga2⟩ := h2
 exact ⟨⟨a0, a1, a2⟩, rfl, ga0, ga1, ga2, trivial⟩
theorem sealOpens_arg0 {N : Nat} {x : DV} (h : Sh tab N dzs 3 26 x) : ∃ a : T_fl08_Case, x = T_fl08_Case.dv a /\ T_fl08_Case.ok N a := by
 replace h : Sh tab N dzs (0 + 3) 26 x := h
 generalize hd : (0 : Nat) = d at h
 obtain ⟨a, rfl, ga⟩ := T_fl08_Case.of_sh26 (d := d + 0) h
 exact ⟨a, rfl, ga⟩
theorem sealOpens_arg1 {N : Nat} {x : DV} (h : Sh tab N dzs 2 24 x) : ∃ a : List Int, x = .roI .u8 a /\ okB .u8 N a := by
 replace h : Sh tab N dzs (0 + 2) 24 x := h
 generalize hd : (0 : Nat) = d at h
 obtain ⟨a, rfl, ga⟩ := h
 exact ⟨a, rfl, ga⟩
end Go.Eng
