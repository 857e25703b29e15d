/-
  Part of a proof: TabN.
-/
import Derived.Test.YtedebbmgijcpfaaDoorEngD
import Derived.Test.YtedebbmgijcpfaaDoorRows
set_option linter.unusedVariables false
set_option linter.unusedSimpArgs false
namespace Go.Eng
open Go.Proofs
def ly5 : Lay := .one
def zr5 : DV := .sc (.int .u8 0)
def ty5 : TInf := ⟨.int .u8, 1, 1, ly5, zr5, false⟩
def ly23 : Lay := .arr 32 ly5
def zr23 : DV := .ints .u8 32 (List.replicate 32 0)
def ty23 : TInf := ⟨.arr 32 5, 32, 32, ly23, zr23, true⟩
def ly24 : Lay := .one
def zr24 : DV := .sc (.slice none 0 0)
def ty24 : TInf := ⟨.sli 5, 1, 24, ly24, zr24, false⟩
def ly26 : Lay := (.pair ly23 (.pair ly24 (.pair ly24 .unit)))
def zr26 : DV := (.cons zr23 (.cons zr24 (.cons zr24 .nil)))
def ty26 : TInf := ⟨.struct [(0, 23), (32, 24), (33, 24)], 34, 80, ly26, zr26, true⟩
def ly3 : Lay := .one
def zr3 : DV := .sc (.int .i64 0)
def ty3 : TInf := ⟨.int .i64, 1, 8, ly3, zr3, false⟩
def ly22 : Lay := .arr 32 ly5
def zr22 : DV := .ints .u8 32 (List.replicate 32 0)
def ty22 : TInf := ⟨.arr 32 5, 32, 32, ly22, zr22, true⟩
def ly9 : Lay := .one
def zr9 : DV := .str []
def ty9 : TInf := ⟨.str, 1, 16, ly9, zr9, false⟩
def ly30 : Lay := .one
def zr30 : DV := .sc .nilIface
def ty30 : TInf := ⟨.iface, 1, 16, ly30, zr30, false⟩
def ly39 : Lay := .one
def zr39 : DV := .sc (.int .u32 0)
def ty39 : TInf := ⟨.int .u32, 1, 4, ly39, zr39, false⟩
def ly40 : Lay := .one
def zr40 : DV := .sc (.slice none 0 0)
def ty40 : TInf := ⟨.sli 24, 1, 24, ly40, zr40, false⟩
def ly43 : Lay := .arr 16 ly5
def zr43 : DV := .ints .u8 16 (List.replicate 16 0)
def ty43 : TInf := ⟨.arr 16 5, 16, 16, ly43, zr43, true⟩
def ly47 : Lay := .one
def zr47 : DV := .sc (.slice none 0 0)
def ty47 : TInf := ⟨.sli 30, 1, 24, ly47, zr47, false⟩
def ly55 : Lay := .one
def zr55 : DV := .sc (.int .u64 0)
def ty55 : TInf := ⟨.int .u64, 1, 8, ly55, zr55, false⟩
def ly57 : Lay := .arr 5 ly55
def zr57 : DV := .ints .u64 5 (List.replicate 5 0)
def ty57 : TInf := ⟨.arr 5 55, 5, 40, ly57, zr57, true⟩
def ly20 : Lay := .one
def zr20 : DV := .sc .nilIface
def ty20 : TInf := ⟨.iface, 1, 16, ly20, zr20, false⟩
def ly4 : Lay := .one
def zr4 : DV := .sc (.bool false)
def ty4 : TInf := ⟨.bool, 1, 1, ly4, zr4, false⟩
def ly74 : Lay := .arr 16 ly39
def zr74 : DV := .ints .u32 16 (List.replicate 16 0)
def ty74 : TInf := ⟨.arr 16 39, 16, 64, ly74, zr74, true⟩
def ly77 : Lay := .one
def zr77 : DV := .sc (.slice none 0 0)
def ty77 : TInf := ⟨.sli 3, 1, 24, ly77, zr77, false⟩
def ly80 : Lay := .one
def zr80 : DV := .sc (.slice none 0 0)
def ty80 : TInf := ⟨.sli 39, 1, 24, ly80, zr80, false⟩
def ly89 : Lay := .one
def zr89 : DV := .sc .nilIface
def ty89 : TInf := ⟨.iface, 1, 16, ly89, zr89, false⟩
def ly92 : Lay := .one
def zr92 : DV := .sc .nilIface
def ty92 : TInf := ⟨.iface, 1, 16, ly92, zr92, false⟩
def ly94 : Lay := .one
def zr94 : DV := .sc .nilIface
def ty94 : TInf := ⟨.iface, 1, 16, ly94, zr94, false⟩
def ly72 : Lay := .one
def zr72 : DV := .sc .nilFunc
def ty72 : TInf := ⟨.func, 1, 8, ly72, zr72, false⟩
def ly97 : Lay := .one
def zr97 : DV := .sc (.pointer none)
def ty97 : TInf := ⟨.ptr 74, 1, 8, ly97, zr97, false⟩
def ly99 : Lay := .one
def zr99 : DV := .sc (.pointer none)
def ty99 : TInf := ⟨.ptr 57, 1, 8, ly99, zr99, false⟩
def ly64 : Lay := .one
def zr64 : DV := .sc (.int .u64 0)
def ty64 : TInf := ⟨.int .u64, 1, 8, ly64, zr64, false⟩
def ly131 : Lay := (.pair ly9 .unit)
def zr131 : DV := (.cons zr9 .nil)
def ty131 : TInf := ⟨.struct [(0, 9)], 1, 16, ly131, zr131, true⟩
def tab : Tr := (.node (.node (.node (.node (.node .leaf 3 ty3 .leaf) 4 ty4 (.node .leaf 5 ty5 .leaf)) 9 ty9 (.node (.node .leaf 20 ty20 .leaf) 22 ty22 .leaf)) 23 ty23 (.node (.node (.node .leaf 24 ty24 .leaf) 26 ty26 (.node .leaf 30 ty30 .leaf)) 39 ty39 (.node (.node .leaf 40 ty40 .leaf) 43 ty43 .leaf))) 47 ty47 (.node (.node (.node (.node .leaf 55 ty55 .leaf) 57 ty57 (.node .leaf 64 ty64 .leaf)) 72 ty72 (.node (.node .leaf 74 ty74 .leaf) 77 ty77 .leaf)) 80 ty80 (.node (.node (.node .leaf 89 ty89 .leaf) 92 ty92 (.node .leaf 94 ty94 .leaf)) 97 ty97 (.node (.node .leaf 99 ty99 .leaf) 131 ty131 .leaf))))
theorem tabOK : TabOK Tryd.prog tab := by
 unfold TabOK
 decide +kernel
theorem mixed : Tryd.prog.follows .mixedOrders = true := by decide +kernel
abbrev ErrV : Type := TypeId × Value
def errA (er : Nat -> ErrV) (n : Nat) : AV := .dv (.sc (.iface (er n).1 (er n).2))
def errD (er : Nat -> ErrV) (n : Nat) : DV := .sc (.iface (er n).1 (er n).2)
end Go.Eng
