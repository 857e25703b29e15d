/-
  Part of a proof: TabN.
-/
import Derived.Test.YtonkmgaofdhbaaaGreatDoorEngC
import Derived.Test.YtonkmgaofdhbaaaGreatDoorRows
set_option linter.unusedVariables false
set_option linter.unusedSimpArgs false
namespace Go.Eng
open Go.Proofs
def Sm:t9 := .one
def h07:DV := .sc (.slice none 0 0)
def l47:T3:=⟨.sli 5,1,24,Sm,h07,false⟩
def s6:t9 := .one
def zr5:DV := .sc (.int .u8 0)
def ty5:T3:=⟨.int .u8,1,1,s6,zr5,false⟩
def l48:t9:=(.pair Sm (.pair Sm (.pair Sm .unit)))
def l49:DV:=(.cons h07 (.cons h07 (.cons h07 .nil)))
def l50:T3:=⟨.struct [(0,22),(1,22),(2,22)],3,72,l48,l49,true⟩
def Ls:t9 := .one
def zr3:DV := .sc (.int .i64 0)
def ty3:T3:=⟨.int .i64,1,8,Ls,zr3,false⟩
def l51:t9 := .one
def l52:DV := .sc (.slice none 0 0)
def l53:T3:=⟨.sli 22,1,24,l51,l52,false⟩
def l54:t9 := .arr 32 s6
def l55:DV := .ints .u8 32 (List.replicate 32 0)
def l56:T3:=⟨.arr 32 5,32,32,l54,l55,true⟩
def l57:t9 := .arr 32 s6
def l58:DV := .ints .u8 32 (List.replicate 32 0)
def l59:T3:=⟨.arr 32 5,32,32,l57,l58,true⟩
def l60:t9 := .one
def l61:DV := .sc .nilIface
def l62:T3:=⟨.iface,1,16,l60,l61,false⟩
def ly9:t9 := .one
def zr9:DV := .str []
def ty9:T3:=⟨.str,1,16,ly9,zr9,false⟩
def l63:t9 := .arr 32 s6
def l65:DV := .ints .u8 32 (List.replicate 32 0)
def l66:T3:=⟨.arr 32 5,32,32,l63,l65,true⟩
def l67:t9 := .one
def l68:DV := .sc (.slice none 0 0)
def l69:T3:=⟨.sli 31,1,24,l67,l68,false⟩
def Hu:t9 := .one
def l70:DV := .sc (.int .u32 0)
def l71:T3:=⟨.int .u32,1,4,Hu,l70,false⟩
def l72:t9 := .arr 16 s6
def l73:DV := .ints .u8 16 (List.replicate 16 0)
def l74:T3:=⟨.arr 16 5,16,16,l72,l73,true⟩
def l75:t9 := .one
def l76:DV := .sc .nilIface
def l77:T3:=⟨.iface,1,16,l75,l76,false⟩
def ly4:t9 := .one
def zr4:DV := .sc (.bool false)
def ty4:T3:=⟨.bool,1,1,ly4,zr4,false⟩
def h08:t9 := .one
def k36:DV := .sc (.int .u64 0)
def l78:T3:=⟨.int .u64,1,8,h08,k36,false⟩
def k37:t9 := .arr 10 h08
def k38:DV := .ints .u64 10 (List.replicate 10 0)
def l79:T3:=⟨.arr 10 95,10,80,k37,k38,true⟩
def d48:t9:=(.pair k37 .unit)
def h09:DV:=(.cons k38 .nil)
def l80:T3:=⟨.struct [(0,96)],10,80,d48,h09,true⟩
def j17:t9:=(.pair d48 (.pair d48 (.pair d48 (.pair d48 .unit))))
def k39:DV:=(.cons h09 (.cons h09 (.cons h09 (.cons h09 .nil))))
def k40:T3:=⟨.struct [(0,98),(10,98),(20,98),(30,98)],40,320,j17,k39,true⟩
def j18:t9 := .arr 5 h08
def k41:DV := .ints .u64 5 (List.replicate 5 0)
def k42:T3:=⟨.arr 5 95,5,40,j18,k41,true⟩
def k43:t9 := .arr 8 Hu
def k44:DV := .ints .u32 8 (List.replicate 8 0)
def k45:T3:=⟨.arr 8 77,8,32,k43,k44,true⟩
def l81:t9 := .one
def l82:DV := .sc (.int .u64 0)
def l83:T3:=⟨.int .u64,1,8,l81,l82,false⟩
def k46:t9 := .one
def k47:DV := .sc (.slice none 0 0)
def k48:T3:=⟨.sli 77,1,24,k46,k47,false⟩
def k49:t9 := .one
def k50:DV := .sc .nilIface
def k51:T3:=⟨.iface,1,16,k49,k50,false⟩
def k52:t9 := .one
def k53:DV := .sc .nilIface
def k54:T3:=⟨.iface,1,16,k52,k53,false⟩
def k55:t9 := .one
def k56:DV := .sc .nilIface
def k57:T3:=⟨.iface,1,16,k55,k56,false⟩
def k58:t9 := .one
def k59:DV := .sc (.pointer none)
def k60:T3:=⟨.ptr 171,1,8,k58,k59,false⟩
def k61:t9 := .arr 20 h08
def k62:DV := .ints .u64 20 (List.replicate 20 0)
def k63:T3:=⟨.arr 20 95,20,160,k61,k62,true⟩
def d49:t9 := .arr 16 Hu
def k64:DV := .ints .u32 16 (List.replicate 16 0)
def k65:T3:=⟨.arr 16 77,16,64,d49,k64,true⟩
def k66:t9 := .one
def k67:DV := .sc (.slice none 0 0)
def k68:T3:=⟨.sli 3,1,24,k66,k67,false⟩
def k69:t9 := .arr 16 Hu
def k70:DV := .ints .u32 16 (List.replicate 16 0)
def k71:T3:=⟨.arr 16 77,16,64,k69,k70,true⟩
def h18:t9 := .arr 8 Hu
def j19:DV := .ints .u32 8 (List.replicate 8 0)
def k72:T3:=⟨.arr 8 77,8,32,h18,j19,true⟩
def Yc:t9:=(.pair h18 (.pair Sm (.pair h08 .unit)))
def k73:DV:=(.cons j19 (.cons h07 (.cons k36 .nil)))
def k74:T3:=⟨.struct [(0,168),(8,22),(9,95)],10,64,Yc,k73,true⟩
def k75:t9 := .one
def k76:DV := .sc (.pointer none)
def k77:T3:=⟨.ptr 98,1,8,k75,k76,false⟩
def k78:t9 := .one
def k79:DV := .sc .nilFunc
def k80:T3:=⟨.func,1,8,k78,k79,false⟩
def k81:t9 := .one
def k82:DV := .sc (.pointer none)
def k83:T3:=⟨.ptr 156,1,8,k81,k82,false⟩
def k84:t9 := .one
def k85:DV := .sc (.pointer none)
def k86:T3:=⟨.ptr 116,1,8,k84,k85,false⟩
def k87:t9 := .arr 64 Hu
def k88:DV := .ints .u32 64 (List.replicate 64 0)
def k89:T3:=⟨.arr 64 77,64,256,k87,k88,true⟩
def k90:t9 := .one
def k91:DV := .sc (.pointer none)
def k92:T3:=⟨.ptr 168,1,8,k90,k91,false⟩
def k93:t9:=(.pair ly9 .unit)
def k94:DV:=(.cons zr9 .nil)
def k95:T3:=⟨.struct [(0,9)],1,16,k93,k94,true⟩
def tab:Tr:=(.node (.node (.node (.node (.node (.node .leaf 3 ty3 .leaf) 4 ty4 .leaf) 5 ty5 (.node (.node .leaf 9 ty9 .leaf) 20 l77 .leaf)) 22 l47 (.node (.node (.node .leaf 24 l50 .leaf) 26 l59 .leaf) 27 l56 (.node .leaf 31 l62 .leaf))) 42 l66 (.node (.node (.node (.node .leaf 48 l53 .leaf) 66 l69 .leaf) 77 l71 (.node .leaf 80 l74 .leaf)) 89 l83 (.node (.node (.node .leaf 95 l78 .leaf) 96 l79 .leaf) 98 l80 (.node .leaf 102 k40 .leaf)))) 108 k80 (.node (.node (.node (.node (.node .leaf 116 k42 .leaf) 124 k45 .leaf) 132 k48 (.node .leaf 138 k51 .leaf)) 141 k54 (.node (.node (.node .leaf 143 k57 .leaf) 145 k60 .leaf) 152 k63 (.node .leaf 155 k71 .leaf))) 156 k65 (.node (.node (.node (.node .leaf 159 k68 .leaf) 168 k72 .leaf) 171 k74 (.node .leaf 172 k77 .leaf)) 174 k83 (.node (.node (.node .leaf 176 k86 .leaf) 180 k92 .leaf) 181 k89 (.node .leaf 211 k95 .leaf)))))
theorem f57:v5 Tryz.prog tab:=by
 unfold v5
 decide +kernel
theorem k96:Tryz.prog.follows .mixedOrders=true:=by decide +kernel
abbrev Zp:Type:=TypeId×Value
def Pe (er:Nat->Zp) (n:Nat):AV := .dv (.sc (.iface (er n).1 (er n).2))
def l84 (er:Nat->Zp) (n:Nat):DV := .sc (.iface (er n).1 (er n).2)
end Go.Eng
