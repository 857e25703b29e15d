/-
  Part of a proof: TabN.
-/
import Derived.Test.YtaolikaifggkgaaDoorEngD
import Derived.Test.YtaolikaifggkgaaDoorRows
set_option linter.unusedVariables false
set_option linter.unusedSimpArgs false
namespace Go.Eng
open Go.Proofs
def ly5 : Lay := .one
def zr5 : DV := .sc (.int .u8 0)
def ty5 : TInf := ⟨.int .u8, 1, 1, ly5, zr5, false⟩
def ly23 : Lay := .arr 32 ly5
def zr23 : DV := .ints .u8 32 (List.replicate 32 0)
def ty23 : TInf := ⟨.arr 32 5, 32, 32, ly23, zr23, true⟩
def ly3 : Lay := .one
def zr3 : DV := .sc (.int .i64 0)
def ty3 : TInf := ⟨.int .i64, 1, 8, ly3, zr3, false⟩
def ly25 : Lay := (.pair ly23 (.pair ly3 (.pair ly23 (.pair ly23 .unit))))
def zr25 : DV := (.cons zr23 (.cons zr3 (.cons zr23 (.cons zr23 .nil))))
def ty25 : TInf := ⟨.struct [(0, 23), (32, 3), (33, 23), (65, 23)], 97, 104, ly25, zr25, true⟩
def ly27 : Lay := (.pair ly23 (.pair ly23 (.pair ly23 (.pair ly23 (.pair ly23 (.pair ly23 (.pair ly23 (.pair ly23 .unit))))))))
def zr27 : DV := (.cons zr23 (.cons zr23 (.cons zr23 (.cons zr23 (.cons zr23 (.cons zr23 (.cons zr23 (.cons zr23 .nil))))))))
def ty27 : TInf := ⟨.struct [(0, 23), (32, 23), (64, 23), (96, 23), (128, 23), (160, 23), (192, 23), (224, 23)], 256, 256, ly27, zr27, true⟩
def ly32 : Lay := .one
def zr32 : DV := .sc (.slice none 0 0)
def ty32 : TInf := ⟨.sli 104, 1, 24, ly32, zr32, false⟩
def ly33 : Lay := .arr 32 ly5
def zr33 : DV := .ints .u8 32 (List.replicate 32 0)
def ty33 : TInf := ⟨.arr 32 5, 32, 32, ly33, zr33, true⟩
def ly96 : Lay := .one
def zr96 : DV := .sc (.slice none 0 0)
def ty96 : TInf := ⟨.sli 5, 1, 24, ly96, zr96, false⟩
def ly98 : Lay := .arr 64 ly5
def zr98 : DV := .ints .u8 64 (List.replicate 64 0)
def ty98 : TInf := ⟨.arr 64 5, 64, 64, ly98, zr98, true⟩
def ly100 : Lay := (.pair ly33 (.pair ly33 (.pair ly96 (.pair ly23 (.pair ly98 .unit)))))
def zr100 : DV := (.cons zr33 (.cons zr33 (.cons zr96 (.cons zr23 (.cons zr98 .nil)))))
def ty100 : TInf := ⟨.struct [(0, 33), (32, 33), (64, 96), (65, 23), (97, 98)], 161, 184, ly100, zr100, true⟩
def ly57 : Lay := .one
def zr57 : DV := .sc (.slice none 0 0)
def ty57 : TInf := ⟨.sli 3, 1, 24, ly57, zr57, false⟩
def ly102 : Lay := (.pair ly33 (.pair ly23 (.pair ly57 .unit)))
def zr102 : DV := (.cons zr33 (.cons zr23 (.cons zr57 .nil)))
def ty102 : TInf := ⟨.struct [(0, 33), (32, 23), (64, 57)], 65, 88, ly102, zr102, true⟩
def ly104 : Lay := (.pair ly3 (.pair ly100 (.pair ly102 .unit)))
def zr104 : DV := (.cons zr3 (.cons zr100 (.cons zr102 .nil)))
def ty104 : TInf := ⟨.struct [(0, 3), (1, 100), (162, 102)], 227, 280, ly104, zr104, true⟩
def ly34 : Lay := .one
def zr34 : DV := .sc (.slice none 0 0)
def ty34 : TInf := ⟨.sli 106, 1, 24, ly34, zr34, false⟩
def ly106 : Lay := (.pair ly3 (.pair ly23 .unit))
def zr106 : DV := (.cons zr3 (.cons zr23 .nil))
def ty106 : TInf := ⟨.struct [(0, 3), (1, 23)], 33, 40, ly106, zr106, true⟩
def ly36 : Lay := (.pair ly33 (.pair ly34 .unit))
def zr36 : DV := (.cons zr33 (.cons zr34 .nil))
def ty36 : TInf := ⟨.struct [(0, 33), (32, 34)], 33, 56, ly36, zr36, true⟩
def ly38 : Lay := (.pair ly25 (.pair ly23 (.pair ly32 (.pair ly3 (.pair ly33 (.pair ly36 (.pair ly27 .unit)))))))
def zr38 : DV := (.cons zr25 (.cons zr23 (.cons zr32 (.cons zr3 (.cons zr33 (.cons zr36 (.cons zr27 .nil)))))))
def ty38 : TInf := ⟨.struct [(0, 25), (97, 23), (129, 32), (130, 3), (131, 33), (163, 36), (196, 27)], 452, 512, ly38, zr38, true⟩
def ly30 : Lay := (.pair ly23 (.pair ly3 (.pair ly23 (.pair ly23 (.pair ly23 (.pair ly23 (.pair ly23 .unit)))))))
def zr30 : DV := (.cons zr23 (.cons zr3 (.cons zr23 (.cons zr23 (.cons zr23 (.cons zr23 (.cons zr23 .nil)))))))
def ty30 : TInf := ⟨.struct [(0, 23), (32, 3), (33, 23), (65, 23), (97, 23), (129, 23), (161, 23)], 193, 200, ly30, zr30, true⟩
def ly40 : Lay := .one
def zr40 : DV := .sc (.slice none 0 0)
def ty40 : TInf := ⟨.sli 44, 1, 24, ly40, zr40, false⟩
def ly4 : Lay := .one
def zr4 : DV := .sc (.bool false)
def ty4 : TInf := ⟨.bool, 1, 1, ly4, zr4, false⟩
def ly44 : Lay := (.pair ly3 (.pair ly30 (.pair ly4 .unit)))
def zr44 : DV := (.cons zr3 (.cons zr30 (.cons zr4 .nil)))
def ty44 : TInf := ⟨.struct [(0, 3), (1, 30), (194, 4)], 195, 216, ly44, zr44, true⟩
def ly41 : Lay := .one
def zr41 : DV := .sc (.pointer none)
def ty41 : TInf := ⟨.ptr 66, 1, 8, ly41, zr41, false⟩
def ly50 : Lay := .one
def zr50 : DV := .sc (.map none)
def ty50 : TInf := ⟨.map 23 4, 1, 8, ly50, zr50, false⟩
def ly47 : Lay := .one
def zr47 : DV := .sc .nilIface
def ty47 : TInf := ⟨.iface, 1, 16, ly47, zr47, false⟩
def ly62 : Lay := .one
def zr62 : DV := .sc (.map none)
def ty62 : TInf := ⟨.map 23 3, 1, 8, ly62, zr62, false⟩
def ly63 : Lay := .one
def zr63 : DV := .sc (.map none)
def ty63 : TInf := ⟨.map 3 3, 1, 8, ly63, zr63, false⟩
def ly64 : Lay := .one
def zr64 : DV := .sc (.slice none 0 0)
def ty64 : TInf := ⟨.sli 68, 1, 24, ly64, zr64, false⟩
def ly68 : Lay := (.pair ly30 (.pair ly3 .unit))
def zr68 : DV := (.cons zr30 (.cons zr3 .nil))
def ty68 : TInf := ⟨.struct [(0, 30), (193, 3)], 194, 208, ly68, zr68, true⟩
def ly66 : Lay := (.pair ly64 (.pair ly62 (.pair ly63 .unit)))
def zr66 : DV := (.cons zr64 (.cons zr62 (.cons zr63 .nil)))
def ty66 : TInf := ⟨.struct [(0, 64), (1, 62), (2, 63)], 3, 40, ly66, zr66, true⟩
def ly74 : Lay := .one
def zr74 : DV := .sc .nilFunc
def ty74 : TInf := ⟨.func, 1, 8, ly74, zr74, false⟩
def ly72 : Lay := .one
def zr72 : DV := .sc .nilFunc
def ty72 : TInf := ⟨.func, 1, 8, ly72, zr72, false⟩
def ly9 : Lay := .one
def zr9 : DV := .str []
def ty9 : TInf := ⟨.str, 1, 16, ly9, zr9, false⟩
def ly110 : Lay := (.pair ly9 .unit)
def zr110 : DV := (.cons zr9 .nil)
def ty110 : TInf := ⟨.struct [(0, 9)], 1, 16, ly110, zr110, true⟩
def tab : Tr := (.node (.node (.node (.node (.node (.node .leaf 3 ty3 .leaf) 4 ty4 .leaf) 5 ty5 (.node .leaf 9 ty9 .leaf)) 23 ty23 (.node (.node .leaf 25 ty25 .leaf) 27 ty27 (.node .leaf 30 ty30 .leaf))) 32 ty32 (.node (.node (.node .leaf 33 ty33 .leaf) 34 ty34 (.node .leaf 36 ty36 .leaf)) 38 ty38 (.node (.node .leaf 40 ty40 .leaf) 41 ty41 (.node .leaf 44 ty44 .leaf)))) 47 ty47 (.node (.node (.node (.node (.node .leaf 50 ty50 .leaf) 57 ty57 .leaf) 62 ty62 (.node .leaf 63 ty63 .leaf)) 64 ty64 (.node (.node .leaf 66 ty66 .leaf) 68 ty68 (.node .leaf 72 ty72 .leaf))) 74 ty74 (.node (.node (.node .leaf 96 ty96 .leaf) 98 ty98 (.node .leaf 100 ty100 .leaf)) 102 ty102 (.node (.node .leaf 104 ty104 .leaf) 106 ty106 (.node .leaf 110 ty110 .leaf)))))

theorem tabOK : TabOK Tryd.prog tab := by
  unfold TabOK
  decide +kernel
theorem mixed : Tryd.prog.follows .mixedOrders = true := by decide +kernel
abbrev ErrV : Type := TypeId × Value
def errA (er : Nat → ErrV) (n : Nat) : AV := .dv (.sc (.iface (er n).1 (er n).2))
def errD (er : Nat → ErrV) (n : Nat) : DV := .sc (.iface (er n).1 (er n).2)
end Go.Eng
