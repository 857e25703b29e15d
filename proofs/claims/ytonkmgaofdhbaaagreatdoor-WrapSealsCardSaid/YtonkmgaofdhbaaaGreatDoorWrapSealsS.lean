/-
  Part of a proof: WrapSealsS.
-/
import Derived.Test.YtonkmgaofdhbaaaGreatDoorEngC
import Derived.Test.YtonkmgaofdhbaaaGreatDoorWrC4
set_option linter.unusedVariables false
set_option linter.unusedSimpArgs false
namespace Go.Eng
set_option maxRecDepth 100000
def dzs:Nat->DV
 |_ => .nil
def z6.ok (N:Nat) (x:z6):Prop:=okB .u8 N x.fInfo/\okB .u8 N x.fWith/\okB .u8 N x.fSeed/\True
theorem z6.of_sh24 {N d:Nat} {x:DV} (h:Sh tab N dzs (d+3) 24 x):∃ s:z6,x=s.dv/\s.ok N:=by
 obtain ⟨_,_,rfl,h0,_,_,rfl,h1,_,_,rfl,h2,rfl⟩:=h
 obtain ⟨a0,rfl,ga0⟩:=h0
 obtain ⟨a1,rfl,ga1⟩:=h1
 obtain ⟨a2,rfl,ga2⟩:=h2
 exact ⟨⟨a0,a1,a2⟩,rfl,ga0,ga1,ga2,trivial⟩
theorem b75 {N:Nat} {x:DV} (h:Sh tab N dzs 2 27 x):∃ a:List Int,x = .ints .u8 32 a/\okA .u8 32 a:=by
 replace h:Sh tab N dzs (0+2) 27 x:=h
 generalize hd:(0:Nat)=d at h
 obtain ⟨a,rfl,ga⟩:=h
 exact ⟨a,rfl,ga⟩
theorem b76 {N:Nat} {x:DV} (h:Sh tab N dzs 3 24 x):∃ a:z6,x=z6.dv a/\z6.ok N a:=by
 replace h:Sh tab N dzs (0+3) 24 x:=h
 generalize hd:(0:Nat)=d at h
 obtain ⟨a,rfl,ga⟩:=z6.of_sh24 (d:=d+0) h
 exact ⟨a,rfl,ga⟩
theorem b77 {N:Nat} {x:DV} (h:Sh tab N dzs 2 22 x):∃ a:List Int,x = .roI .u8 a/\okB .u8 N a:=by
 replace h:Sh tab N dzs (0+2) 22 x:=h
 generalize hd:(0:Nat)=d at h
 obtain ⟨a,rfl,ga⟩:=h
 exact ⟨a,rfl,ga⟩
end Go.Eng
