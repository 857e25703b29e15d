/-
  Part of a proof: SignSignsS.
-/
import Derived.Test.YtaogeiahkekaoaaGreatDoorEngC
import Derived.Test.YtaogeiahkekaoaaGreatDoorSbdC1
set_option linter.unusedVariables false
set_option linter.unusedSimpArgs false
namespace Go.Eng
set_option maxRecDepth 100000
def dzs:Nat->DV
 |_ => .nil
theorem signSigns_arg0 {N:Nat} {x:DV} (h:Sh tab N dzs 2 23 x):∃ a:List Int,x = .ints .u8 32 a/\okA .u8 32 a:=by
 replace h:Sh tab N dzs (0+2) 23 x:=h
 generalize hd:(0:Nat)=d at h
 obtain ⟨a,rfl,ga⟩:=h
 exact ⟨a,rfl,ga⟩
theorem signSigns_arg1 {N:Nat} {x:DV} (h:Sh tab N dzs 2 24 x):∃ a:List Int,x = .roI .u8 a/\okB .u8 N a:=by
 replace h:Sh tab N dzs (0+2) 24 x:=h
 generalize hd:(0:Nat)=d at h
 obtain ⟨a,rfl,ga⟩:=h
 exact ⟨a,rfl,ga⟩
theorem signSigns_arg2 {N:Nat} {x:DV} (h:Sh tab N dzs 2 24 x):∃ a:List Int,x = .roI .u8 a/\okB .u8 N a:=by
 replace h:Sh tab N dzs (0+2) 24 x:=h
 generalize hd:(0:Nat)=d at h
 obtain ⟨a,rfl,ga⟩:=h
 exact ⟨a,rfl,ga⟩
end Go.Eng
