/-
  Part of a proof: TabN.
-/
import Derived.Test.YtaogeiahkekaoaaGreatDoorEngC
import Derived.Test.YtaogeiahkekaoaaGreatDoorRows
set_option linter.unusedVariables false
set_option linter.unusedSimpArgs false
namespace Go.Eng
open Go.Proofs
def ly5:Lay := .one
def zr5:DV := .sc (.int .u8 0)
def ty5:TInf:=⟨.int .u8,1,1,ly5,zr5,false⟩
def ly23:Lay := .arr 32 ly5
def zr23:DV := .ints .u8 32 (List.replicate 32 0)
def ty23:TInf:=⟨.arr 32 5,32,32,ly23,zr23,true⟩
def ly24:Lay := .one
def zr24:DV := .sc (.slice none 0 0)
def ty24:TInf:=⟨.sli 5,1,24,ly24,zr24,false⟩
def ly3:Lay := .one
def zr3:DV := .sc (.int .i64 0)
def ty3:TInf:=⟨.int .i64,1,8,ly3,zr3,false⟩
def ly36:Lay := .one
def zr36:DV := .sc (.slice none 0 0)
def ty36:TInf:=⟨.sli 24,1,24,ly36,zr36,false⟩
def ly27:Lay := .arr 64 ly5
def zr27:DV := .ints .u8 64 (List.replicate 64 0)
def ty27:TInf:=⟨.arr 64 5,64,64,ly27,zr27,true⟩
def ly22:Lay := .arr 32 ly5
def zr22:DV := .ints .u8 32 (List.replicate 32 0)
def ty22:TInf:=⟨.arr 32 5,32,32,ly22,zr22,true⟩
def ly26:Lay := .arr 64 ly5
def zr26:DV := .ints .u8 64 (List.replicate 64 0)
def ty26:TInf:=⟨.arr 64 5,64,64,ly26,zr26,true⟩
def ly4:Lay := .one
def zr4:DV := .sc (.bool false)
def ty4:TInf:=⟨.bool,1,1,ly4,zr4,false⟩
def ly39:Lay := .one
def zr39:DV := .sc (.int .u64 0)
def ty39:TInf:=⟨.int .u64,1,8,ly39,zr39,false⟩
def ly40:Lay := .arr 10 ly39
def zr40:DV := .ints .u64 10 (List.replicate 10 0)
def ty40:TInf:=⟨.arr 10 39,10,80,ly40,zr40,true⟩
def ly42:Lay:=(.pair ly40 .unit)
def zr42:DV:=(.cons zr40 .nil)
def ty42:TInf:=⟨.struct [(0,40)],10,80,ly42,zr42,true⟩
def ly44:Lay:=(.pair ly42 (.pair ly42 (.pair ly42 (.pair ly42 .unit))))
def zr44:DV:=(.cons zr42 (.cons zr42 (.cons zr42 (.cons zr42 .nil))))
def ty44:TInf:=⟨.struct [(0,42),(10,42),(20,42),(30,42)],40,320,ly44,zr44,true⟩
def ly57:Lay := .one
def zr57:DV := .sc .nilIface
def ty57:TInf:=⟨.iface,1,16,ly57,zr57,false⟩
def ly64:Lay := .one
def zr64:DV := .sc (.int .u32 0)
def ty64:TInf:=⟨.int .u32,1,4,ly64,zr64,false⟩
def ly66:Lay := .arr 8 ly64
def zr66:DV := .ints .u32 8 (List.replicate 8 0)
def ty66:TInf:=⟨.arr 8 64,8,32,ly66,zr66,true⟩
def ly68:Lay:=(.pair ly66 (.pair ly66 (.pair ly66 .unit)))
def zr68:DV:=(.cons zr66 (.cons zr66 (.cons zr66 .nil)))
def ty68:TInf:=⟨.struct [(0,66),(8,66),(16,66)],24,96,ly68,zr68,true⟩
def ly74:Lay := .arr 64 ly5
def zr74:DV := .ints .u8 64 (List.replicate 64 0)
def ty74:TInf:=⟨.arr 64 5,64,64,ly74,zr74,true⟩
def ly84:Lay := .arr 8 ly39
def zr84:DV := .ints .u64 8 (List.replicate 8 0)
def ty84:TInf:=⟨.arr 8 39,8,64,ly84,zr84,true⟩
def ly86:Lay := .one
def zr86:DV := .sc (.int .u64 0)
def ty86:TInf:=⟨.int .u64,1,8,ly86,zr86,false⟩
def ly91:Lay := .one
def zr91:DV := .sc (.slice none 0 0)
def ty91:TInf:=⟨.sli 3,1,24,ly91,zr91,false⟩
def ly107:Lay := .arr 8 ly39
def zr107:DV := .ints .u64 8 (List.replicate 8 0)
def ty107:TInf:=⟨.arr 8 39,8,64,ly107,zr107,true⟩
def ly115:Lay := .arr 20 ly39
def zr115:DV := .ints .u64 20 (List.replicate 20 0)
def ty115:TInf:=⟨.arr 20 39,20,160,ly115,zr115,true⟩
def ly120:Lay := .one
def zr120:DV := .sc (.slice none 0 0)
def ty120:TInf:=⟨.sli 39,1,24,ly120,zr120,false⟩
def ly128:Lay := .arr 16 ly64
def zr128:DV := .ints .u32 16 (List.replicate 16 0)
def ty128:TInf:=⟨.arr 16 64,16,64,ly128,zr128,true⟩
def ly133:Lay := .arr 80 ly39
def zr133:DV := .ints .u64 80 (List.replicate 80 0)
def ty133:TInf:=⟨.arr 80 39,80,640,ly133,zr133,true⟩
def ly132:Lay := .one
def zr132:DV := .sc (.pointer none)
def ty132:TInf:=⟨.ptr 107,1,8,ly132,zr132,false⟩
def ly136:Lay := .one
def zr136:DV := .sc (.pointer none)
def ty136:TInf:=⟨.ptr 42,1,8,ly136,zr136,false⟩
def ly126:Lay := .one
def zr126:DV := .sc .nilFunc
def ty126:TInf:=⟨.func,1,8,ly126,zr126,false⟩
def ly9:Lay := .one
def zr9:DV := .str []
def ty9:TInf:=⟨.str,1,16,ly9,zr9,false⟩
def ly156:Lay:=(.pair ly9 .unit)
def zr156:DV:=(.cons zr9 .nil)
def ty156:TInf:=⟨.struct [(0,9)],1,16,ly156,zr156,true⟩
def tab:Tr:=(.node (.node (.node (.node (.node .leaf 3 ty3 .leaf) 4 ty4 (.node .leaf 5 ty5 .leaf)) 9 ty9 (.node (.node .leaf 22 ty22 .leaf) 23 ty23 (.node .leaf 24 ty24 .leaf))) 26 ty26 (.node (.node (.node .leaf 27 ty27 .leaf) 36 ty36 (.node .leaf 39 ty39 .leaf)) 40 ty40 (.node (.node .leaf 42 ty42 .leaf) 44 ty44 (.node .leaf 57 ty57 .leaf)))) 64 ty64 (.node (.node (.node (.node .leaf 66 ty66 .leaf) 68 ty68 (.node .leaf 74 ty74 .leaf)) 84 ty84 (.node (.node .leaf 86 ty86 .leaf) 91 ty91 (.node .leaf 107 ty107 .leaf))) 115 ty115 (.node (.node (.node .leaf 120 ty120 .leaf) 126 ty126 (.node .leaf 128 ty128 .leaf)) 132 ty132 (.node (.node .leaf 133 ty133 .leaf) 136 ty136 (.node .leaf 156 ty156 .leaf)))))
theorem tabOK:TabOK Tryz.prog tab:=by
 unfold TabOK
 decide +kernel
theorem mixed:Tryz.prog.follows .mixedOrders=true:=by decide +kernel
abbrev ErrV:Type:=TypeId×Value
def errA (er:Nat->ErrV) (n:Nat):AV := .dv (.sc (.iface (er n).1 (er n).2))
end Go.Eng
