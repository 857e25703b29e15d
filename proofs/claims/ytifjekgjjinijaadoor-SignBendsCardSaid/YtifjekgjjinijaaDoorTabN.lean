/-
  Part of a proof: TabN.
-/
import Derived.Test.YtifjekgjjinijaaDoorEngD
import Derived.Test.YtifjekgjjinijaaDoorRows
set_option linter.unusedVariables false
set_option linter.unusedSimpArgs false
namespace Go.Eng
open Go.Proofs
def ly5 : Lay := .one
def zr5 : DV := .sc (.int .u8 0)
def ty5 : TInf := ⟨.int .u8, 1, 1, ly5, zr5, false⟩
def ly23 : Lay := .arr 32 ly5
def zr23 : DV := .ints .u8 32 (List.replicate 32 0)
def ty23 : TInf := ⟨.arr 32 5, 32, 32, ly23, zr23, true⟩
def ly24 : Lay := .one
def zr24 : DV := .sc (.slice none 0 0)
def ty24 : TInf := ⟨.sli 5, 1, 24, ly24, zr24, false⟩
def ly3 : Lay := .one
def zr3 : DV := .sc (.int .i64 0)
def ty3 : TInf := ⟨.int .i64, 1, 8, ly3, zr3, false⟩
def ly32 : Lay := .one
def zr32 : DV := .sc (.slice none 0 0)
def ty32 : TInf := ⟨.sli 24, 1, 24, ly32, zr32, false⟩
def ly27 : Lay := .arr 64 ly5
def zr27 : DV := .ints .u8 64 (List.replicate 64 0)
def ty27 : TInf := ⟨.arr 64 5, 64, 64, ly27, zr27, true⟩
def ly4 : Lay := .one
def zr4 : DV := .sc (.bool false)
def ty4 : TInf := ⟨.bool, 1, 1, ly4, zr4, false⟩
def ly35 : Lay := .one
def zr35 : DV := .sc (.int .u64 0)
def ty35 : TInf := ⟨.int .u64, 1, 8, ly35, zr35, false⟩
def ly36 : Lay := .arr 10 ly35
def zr36 : DV := .ints .u64 10 (List.replicate 10 0)
def ty36 : TInf := ⟨.arr 10 35, 10, 80, ly36, zr36, true⟩
def ly38 : Lay := (.pair ly36 .unit)
def zr38 : DV := (.cons zr36 .nil)
def ty38 : TInf := ⟨.struct [(0, 36)], 10, 80, ly38, zr38, true⟩
def ly40 : Lay := (.pair ly38 (.pair ly38 (.pair ly38 (.pair ly38 .unit))))
def zr40 : DV := (.cons zr38 (.cons zr38 (.cons zr38 (.cons zr38 .nil))))
def ty40 : TInf := ⟨.struct [(0, 38), (10, 38), (20, 38), (30, 38)], 40, 320, ly40, zr40, true⟩
def ly48 : Lay := .one
def zr48 : DV := .sc .nilIface
def ty48 : TInf := ⟨.iface, 1, 16, ly48, zr48, false⟩
def ly54 : Lay := .arr 64 ly5
def zr54 : DV := .ints .u8 64 (List.replicate 64 0)
def ty54 : TInf := ⟨.arr 64 5, 64, 64, ly54, zr54, true⟩
def ly64 : Lay := .arr 8 ly35
def zr64 : DV := .ints .u64 8 (List.replicate 8 0)
def ty64 : TInf := ⟨.arr 8 35, 8, 64, ly64, zr64, true⟩
def ly26 : Lay := .arr 64 ly5
def zr26 : DV := .ints .u8 64 (List.replicate 64 0)
def ty26 : TInf := ⟨.arr 64 5, 64, 64, ly26, zr26, true⟩
def ly66 : Lay := .one
def zr66 : DV := .sc (.int .u64 0)
def ty66 : TInf := ⟨.int .u64, 1, 8, ly66, zr66, false⟩
def ly73 : Lay := .arr 8 ly35
def zr73 : DV := .ints .u64 8 (List.replicate 8 0)
def ty73 : TInf := ⟨.arr 8 35, 8, 64, ly73, zr73, true⟩
def ly81 : Lay := .arr 20 ly35
def zr81 : DV := .ints .u64 20 (List.replicate 20 0)
def ty81 : TInf := ⟨.arr 20 35, 20, 160, ly81, zr81, true⟩
def ly92 : Lay := .arr 80 ly35
def zr92 : DV := .ints .u64 80 (List.replicate 80 0)
def ty92 : TInf := ⟨.arr 80 35, 80, 640, ly92, zr92, true⟩
def ly95 : Lay := .one
def zr95 : DV := .sc (.slice none 0 0)
def ty95 : TInf := ⟨.sli 35, 1, 24, ly95, zr95, false⟩
def ly91 : Lay := .one
def zr91 : DV := .sc (.pointer none)
def ty91 : TInf := ⟨.ptr 73, 1, 8, ly91, zr91, false⟩
def ly96 : Lay := .one
def zr96 : DV := .sc (.pointer none)
def ty96 : TInf := ⟨.ptr 38, 1, 8, ly96, zr96, false⟩
def ly88 : Lay := .one
def zr88 : DV := .sc .nilFunc
def ty88 : TInf := ⟨.func, 1, 8, ly88, zr88, false⟩
def ly9 : Lay := .one
def zr9 : DV := .str []
def ty9 : TInf := ⟨.str, 1, 16, ly9, zr9, false⟩
def ly117 : Lay := (.pair ly9 .unit)
def zr117 : DV := (.cons zr9 .nil)
def ty117 : TInf := ⟨.struct [(0, 9)], 1, 16, ly117, zr117, true⟩
def tab : Tr := (.node (.node (.node (.node (.node .leaf 3 ty3 .leaf) 4 ty4 (.node .leaf 5 ty5 .leaf)) 9 ty9 (.node (.node .leaf 23 ty23 .leaf) 24 ty24 .leaf)) 26 ty26 (.node (.node (.node .leaf 27 ty27 .leaf) 32 ty32 .leaf) 35 ty35 (.node (.node .leaf 36 ty36 .leaf) 38 ty38 .leaf))) 40 ty40 (.node (.node (.node (.node .leaf 48 ty48 .leaf) 54 ty54 (.node .leaf 64 ty64 .leaf)) 66 ty66 (.node (.node .leaf 73 ty73 .leaf) 81 ty81 .leaf)) 88 ty88 (.node (.node (.node .leaf 91 ty91 .leaf) 92 ty92 .leaf) 95 ty95 (.node (.node .leaf 96 ty96 .leaf) 117 ty117 .leaf))))
theorem tabOK : TabOK Tryd.prog tab := by
 unfold TabOK
 decide +kernel
theorem mixed : Tryd.prog.follows .mixedOrders = true := by decide +kernel
abbrev ErrV : Type := TypeId × Value
def errA (er : Nat -> ErrV) (n : Nat) : AV := .dv (.sc (.iface (er n).1 (er n).2))
end Go.Eng
