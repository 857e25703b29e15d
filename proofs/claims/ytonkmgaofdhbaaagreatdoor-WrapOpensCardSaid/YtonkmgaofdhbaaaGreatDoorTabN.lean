/-
  Part of a proof: TabN.
-/
import Derived.Test.YtonkmgaofdhbaaaGreatDoorEngC
import Derived.Test.YtonkmgaofdhbaaaGreatDoorRows
set_option linter.unusedVariables false
set_option linter.unusedSimpArgs false
namespace Go.Eng
open Go.Proofs
def Zv:t9 := .one
def g92:DV := .sc (.slice none 0 0)
def l36:T4:=⟨.sli 5,1,24,Zv,g92,false⟩
def s5:t9 := .one
def zr5:DV := .sc (.int .u8 0)
def ty5:T4:=⟨.int .u8,1,1,s5,zr5,false⟩
def l37:t9:=(.pair Zv (.pair Zv (.pair Zv .unit)))
def l38:DV:=(.cons g92 (.cons g92 (.cons g92 .nil)))
def l39:T4:=⟨.struct [(0,22),(1,22),(2,22)],3,72,l37,l38,true⟩
def Lg:t9 := .one
def zr3:DV := .sc (.int .i64 0)
def ty3:T4:=⟨.int .i64,1,8,Lg,zr3,false⟩
def l40:t9 := .one
def l41:DV := .sc (.slice none 0 0)
def l42:T4:=⟨.sli 22,1,24,l40,l41,false⟩
def l43:t9 := .arr 32 s5
def l44:DV := .ints .u8 32 (List.replicate 32 0)
def l45:T4:=⟨.arr 32 5,32,32,l43,l44,true⟩
def l46:t9 := .arr 32 s5
def l47:DV := .ints .u8 32 (List.replicate 32 0)
def l48:T4:=⟨.arr 32 5,32,32,l46,l47,true⟩
def l49:t9 := .one
def l50:DV := .sc .nilIface
def l51:T4:=⟨.iface,1,16,l49,l50,false⟩
def ly9:t9 := .one
def zr9:DV := .str []
def ty9:T4:=⟨.str,1,16,ly9,zr9,false⟩
def l52:t9 := .arr 32 s5
def l53:DV := .ints .u8 32 (List.replicate 32 0)
def l54:T4:=⟨.arr 32 5,32,32,l52,l53,true⟩
def l55:t9 := .one
def l56:DV := .sc (.slice none 0 0)
def l57:T4:=⟨.sli 31,1,24,l55,l56,false⟩
def He:t9 := .one
def l58:DV := .sc (.int .u32 0)
def l59:T4:=⟨.int .u32,1,4,He,l58,false⟩
def l60:t9 := .arr 16 s5
def l61:DV := .ints .u8 16 (List.replicate 16 0)
def l62:T4:=⟨.arr 16 5,16,16,l60,l61,true⟩
def l63:t9 := .one
def l65:DV := .sc .nilIface
def l66:T4:=⟨.iface,1,16,l63,l65,false⟩
def ly4:t9 := .one
def zr4:DV := .sc (.bool false)
def ty4:T4:=⟨.bool,1,1,ly4,zr4,false⟩
def g93:t9 := .one
def k01:DV := .sc (.int .u64 0)
def l67:T4:=⟨.int .u64,1,8,g93,k01,false⟩
def k02:t9 := .arr 10 g93
def k03:DV := .ints .u64 10 (List.replicate 10 0)
def l68:T4:=⟨.arr 10 95,10,80,k02,k03,true⟩
def d34:t9:=(.pair k02 .unit)
def g94:DV:=(.cons k03 .nil)
def l69:T4:=⟨.struct [(0,96)],10,80,d34,g94,true⟩
def j03:t9:=(.pair d34 (.pair d34 (.pair d34 (.pair d34 .unit))))
def k04:DV:=(.cons g94 (.cons g94 (.cons g94 (.cons g94 .nil))))
def k05:T4:=⟨.struct [(0,98),(10,98),(20,98),(30,98)],40,320,j03,k04,true⟩
def j04:t9 := .arr 5 g93
def k06:DV := .ints .u64 5 (List.replicate 5 0)
def k07:T4:=⟨.arr 5 95,5,40,j04,k06,true⟩
def k08:t9 := .arr 8 He
def k09:DV := .ints .u32 8 (List.replicate 8 0)
def k32:T4:=⟨.arr 8 77,8,32,k08,k09,true⟩
def l70:t9 := .one
def l71:DV := .sc (.int .u64 0)
def l72:T4:=⟨.int .u64,1,8,l70,l71,false⟩
def k33:t9 := .one
def k34:DV := .sc (.slice none 0 0)
def k35:T4:=⟨.sli 77,1,24,k33,k34,false⟩
def k36:t9 := .one
def k37:DV := .sc .nilIface
def k38:T4:=⟨.iface,1,16,k36,k37,false⟩
def k39:t9 := .one
def k40:DV := .sc .nilIface
def k41:T4:=⟨.iface,1,16,k39,k40,false⟩
def k42:t9 := .one
def k43:DV := .sc .nilIface
def k44:T4:=⟨.iface,1,16,k42,k43,false⟩
def k45:t9 := .one
def k46:DV := .sc (.pointer none)
def k47:T4:=⟨.ptr 171,1,8,k45,k46,false⟩
def k48:t9 := .arr 20 g93
def k49:DV := .ints .u64 20 (List.replicate 20 0)
def k50:T4:=⟨.arr 20 95,20,160,k48,k49,true⟩
def d35:t9 := .arr 16 He
def k51:DV := .ints .u32 16 (List.replicate 16 0)
def k52:T4:=⟨.arr 16 77,16,64,d35,k51,true⟩
def k53:t9 := .one
def k54:DV := .sc (.slice none 0 0)
def k55:T4:=⟨.sli 3,1,24,k53,k54,false⟩
def k56:t9 := .arr 16 He
def k57:DV := .ints .u32 16 (List.replicate 16 0)
def k58:T4:=⟨.arr 16 77,16,64,k56,k57,true⟩
def g95:t9 := .arr 8 He
def j05:DV := .ints .u32 8 (List.replicate 8 0)
def k59:T4:=⟨.arr 8 77,8,32,g95,j05,true⟩
def Xj:t9:=(.pair g95 (.pair Zv (.pair g93 .unit)))
def k60:DV:=(.cons j05 (.cons g92 (.cons k01 .nil)))
def k61:T4:=⟨.struct [(0,168),(8,22),(9,95)],10,64,Xj,k60,true⟩
def k62:t9 := .one
def k63:DV := .sc (.pointer none)
def k64:T4:=⟨.ptr 98,1,8,k62,k63,false⟩
def k65:t9 := .one
def k66:DV := .sc .nilFunc
def k67:T4:=⟨.func,1,8,k65,k66,false⟩
def k68:t9 := .one
def k69:DV := .sc (.pointer none)
def k70:T4:=⟨.ptr 156,1,8,k68,k69,false⟩
def k71:t9 := .one
def k72:DV := .sc (.pointer none)
def k73:T4:=⟨.ptr 116,1,8,k71,k72,false⟩
def k74:t9 := .arr 64 He
def k75:DV := .ints .u32 64 (List.replicate 64 0)
def k76:T4:=⟨.arr 64 77,64,256,k74,k75,true⟩
def k77:t9 := .one
def k78:DV := .sc (.pointer none)
def k79:T4:=⟨.ptr 168,1,8,k77,k78,false⟩
def k80:t9:=(.pair ly9 .unit)
def k81:DV:=(.cons zr9 .nil)
def k82:T4:=⟨.struct [(0,9)],1,16,k80,k81,true⟩
def tab:Tr:=(.node (.node (.node (.node (.node (.node .leaf 3 ty3 .leaf) 4 ty4 .leaf) 5 ty5 (.node (.node .leaf 9 ty9 .leaf) 20 l66 .leaf)) 22 l36 (.node (.node (.node .leaf 24 l39 .leaf) 26 l48 .leaf) 27 l45 (.node .leaf 31 l51 .leaf))) 42 l54 (.node (.node (.node (.node .leaf 48 l42 .leaf) 66 l57 .leaf) 77 l59 (.node .leaf 80 l62 .leaf)) 89 l72 (.node (.node (.node .leaf 95 l67 .leaf) 96 l68 .leaf) 98 l69 (.node .leaf 102 k05 .leaf)))) 108 k67 (.node (.node (.node (.node (.node .leaf 116 k07 .leaf) 124 k32 .leaf) 132 k35 (.node .leaf 138 k38 .leaf)) 141 k41 (.node (.node (.node .leaf 143 k44 .leaf) 145 k47 .leaf) 152 k50 (.node .leaf 155 k58 .leaf))) 156 k52 (.node (.node (.node (.node .leaf 159 k55 .leaf) 168 k59 .leaf) 171 k61 (.node .leaf 172 k64 .leaf)) 174 k70 (.node (.node (.node .leaf 176 k73 .leaf) 180 k79 .leaf) 181 k76 (.node .leaf 211 k82 .leaf)))))
theorem f39:u9 Tryz.prog tab:=by
 unfold u9
 decide +kernel
theorem k83:Tryz.prog.follows .mixedOrders=true:=by decide +kernel
abbrev Yx:Type:=TypeId×Value
def Rc (er:Nat->Yx) (n:Nat):AV := .dv (.sc (.iface (er n).1 (er n).2))
def l73 (er:Nat->Yx) (n:Nat):DV := .sc (.iface (er n).1 (er n).2)
end Go.Eng
