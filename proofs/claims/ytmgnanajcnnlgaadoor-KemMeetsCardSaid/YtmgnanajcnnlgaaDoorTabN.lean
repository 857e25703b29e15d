/-
  Part of a proof: TabN.
-/
import Derived.Test.YtmgnanajcnnlgaaDoorEngD
import Derived.Test.YtmgnanajcnnlgaaDoorRows
set_option linter.unusedVariables false
set_option linter.unusedSimpArgs false
namespace Go.Eng
open Go.Proofs
def ly22 : Lay := .one
def zr22 : DV := .sc (.slice none 0 0)
def ty22 : TInf := ⟨.sli 5, 1, 24, ly22, zr22, false⟩
def ly5 : Lay := .one
def zr5 : DV := .sc (.int .u8 0)
def ty5 : TInf := ⟨.int .u8, 1, 1, ly5, zr5, false⟩
def ly3 : Lay := .one
def zr3 : DV := .sc (.int .i64 0)
def ty3 : TInf := ⟨.int .i64, 1, 8, ly3, zr3, false⟩
def ly44 : Lay := .one
def zr44 : DV := .sc (.slice none 0 0)
def ty44 : TInf := ⟨.sli 22, 1, 24, ly44, zr44, false⟩
def ly25 : Lay := .arr 32 ly5
def zr25 : DV := .ints .u8 32 (List.replicate 32 0)
def ty25 : TInf := ⟨.arr 32 5, 32, 32, ly25, zr25, true⟩
def ly24 : Lay := .arr 32 ly5
def zr24 : DV := .ints .u8 32 (List.replicate 32 0)
def ty24 : TInf := ⟨.arr 32 5, 32, 32, ly24, zr24, true⟩
def ly31 : Lay := .arr 32 ly5
def zr31 : DV := .ints .u8 32 (List.replicate 32 0)
def ty31 : TInf := ⟨.arr 32 5, 32, 32, ly31, zr31, true⟩
def ly33 : Lay := .one
def zr33 : DV := .sc .nilIface
def ty33 : TInf := ⟨.iface, 1, 16, ly33, zr33, false⟩
def ly9 : Lay := .one
def zr9 : DV := .str []
def ty9 : TInf := ⟨.str, 1, 16, ly9, zr9, false⟩
def ly57 : Lay := .one
def zr57 : DV := .sc (.slice none 0 0)
def ty57 : TInf := ⟨.sli 33, 1, 24, ly57, zr57, false⟩
def ly67 : Lay := .one
def zr67 : DV := .sc (.int .u32 0)
def ty67 : TInf := ⟨.int .u32, 1, 4, ly67, zr67, false⟩
def ly69 : Lay := .arr 8 ly67
def zr69 : DV := .ints .u32 8 (List.replicate 8 0)
def ty69 : TInf := ⟨.arr 8 67, 8, 32, ly69, zr69, true⟩
def ly71 : Lay := .one
def zr71 : DV := .sc (.int .u64 0)
def ty71 : TInf := ⟨.int .u64, 1, 8, ly71, zr71, false⟩
def ly20 : Lay := .one
def zr20 : DV := .sc .nilIface
def ty20 : TInf := ⟨.iface, 1, 16, ly20, zr20, false⟩
def ly4 : Lay := .one
def zr4 : DV := .sc (.bool false)
def ty4 : TInf := ⟨.bool, 1, 1, ly4, zr4, false⟩
def ly81 : Lay := .one
def zr81 : DV := .sc (.int .u64 0)
def ty81 : TInf := ⟨.int .u64, 1, 8, ly81, zr81, false⟩
def ly82 : Lay := .arr 10 ly81
def zr82 : DV := .ints .u64 10 (List.replicate 10 0)
def ty82 : TInf := ⟨.arr 10 81, 10, 80, ly82, zr82, true⟩
def ly84 : Lay := (.pair ly82 .unit)
def zr84 : DV := (.cons zr82 .nil)
def ty84 : TInf := ⟨.struct [(0, 82)], 10, 80, ly84, zr84, true⟩
def ly88 : Lay := (.pair ly84 (.pair ly84 (.pair ly84 (.pair ly84 .unit))))
def zr88 : DV := (.cons zr84 (.cons zr84 (.cons zr84 (.cons zr84 .nil))))
def ty88 : TInf := ⟨.struct [(0, 84), (10, 84), (20, 84), (30, 84)], 40, 320, ly88, zr88, true⟩
def ly94 : Lay := .arr 16 ly67
def zr94 : DV := .ints .u32 16 (List.replicate 16 0)
def ty94 : TInf := ⟨.arr 16 67, 16, 64, ly94, zr94, true⟩
def ly100 : Lay := .one
def zr100 : DV := .sc .nilIface
def ty100 : TInf := ⟨.iface, 1, 16, ly100, zr100, false⟩
def ly103 : Lay := .one
def zr103 : DV := .sc .nilIface
def ty103 : TInf := ⟨.iface, 1, 16, ly103, zr103, false⟩
def ly105 : Lay := .one
def zr105 : DV := .sc .nilIface
def ty105 : TInf := ⟨.iface, 1, 16, ly105, zr105, false⟩
def ly107 : Lay := .one
def zr107 : DV := .sc (.pointer none)
def ty107 : TInf := ⟨.ptr 125, 1, 8, ly107, zr107, false⟩
def ly114 : Lay := .arr 20 ly81
def zr114 : DV := .ints .u64 20 (List.replicate 20 0)
def ty114 : TInf := ⟨.arr 20 81, 20, 160, ly114, zr114, true⟩
def ly117 : Lay := .one
def zr117 : DV := .sc (.slice none 0 0)
def ty117 : TInf := ⟨.sli 67, 1, 24, ly117, zr117, false⟩
def ly122 : Lay := .arr 8 ly67
def zr122 : DV := .ints .u32 8 (List.replicate 8 0)
def ty122 : TInf := ⟨.arr 8 67, 8, 32, ly122, zr122, true⟩
def ly125 : Lay := (.pair ly122 (.pair ly22 (.pair ly81 .unit)))
def zr125 : DV := (.cons zr122 (.cons zr22 (.cons zr81 .nil)))
def ty125 : TInf := ⟨.struct [(0, 122), (8, 22), (9, 81)], 10, 64, ly125, zr125, true⟩
def ly128 : Lay := .one
def zr128 : DV := .sc (.pointer none)
def ty128 : TInf := ⟨.ptr 84, 1, 8, ly128, zr128, false⟩
def ly130 : Lay := .arr 64 ly67
def zr130 : DV := .ints .u32 64 (List.replicate 64 0)
def ty130 : TInf := ⟨.arr 64 67, 64, 256, ly130, zr130, true⟩
def ly129 : Lay := .one
def zr129 : DV := .sc (.pointer none)
def ty129 : TInf := ⟨.ptr 122, 1, 8, ly129, zr129, false⟩
def ly158 : Lay := (.pair ly9 .unit)
def zr158 : DV := (.cons zr9 .nil)
def ty158 : TInf := ⟨.struct [(0, 9)], 1, 16, ly158, zr158, true⟩
def tab : Tr := (.node (.node (.node (.node (.node (.node .leaf 3 ty3 .leaf) 4 ty4 .leaf) 5 ty5 (.node .leaf 9 ty9 .leaf)) 20 ty20 (.node (.node .leaf 22 ty22 .leaf) 24 ty24 (.node .leaf 25 ty25 .leaf))) 31 ty31 (.node (.node (.node .leaf 33 ty33 .leaf) 44 ty44 (.node .leaf 57 ty57 .leaf)) 67 ty67 (.node (.node .leaf 69 ty69 .leaf) 71 ty71 (.node .leaf 81 ty81 .leaf)))) 82 ty82 (.node (.node (.node (.node .leaf 84 ty84 .leaf) 88 ty88 (.node .leaf 94 ty94 .leaf)) 100 ty100 (.node (.node .leaf 103 ty103 .leaf) 105 ty105 (.node .leaf 107 ty107 .leaf))) 114 ty114 (.node (.node (.node .leaf 117 ty117 .leaf) 122 ty122 (.node .leaf 125 ty125 .leaf)) 128 ty128 (.node (.node .leaf 129 ty129 .leaf) 130 ty130 (.node .leaf 158 ty158 .leaf)))))
theorem tabOK : TabOK Tryd.prog tab := by
 unfold TabOK
 decide +kernel
theorem mixed : Tryd.prog.follows .mixedOrders = true := by decide +kernel
abbrev ErrV : Type := TypeId × Value
def errA (er : Nat -> ErrV) (n : Nat) : AV := .dv (.sc (.iface (er n).1 (er n).2))
def errD (er : Nat -> ErrV) (n : Nat) : DV := .sc (.iface (er n).1 (er n).2)
end Go.Eng
