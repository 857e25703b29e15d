/-
  Part of a proof: SelP1.
-/
import Derived.Test.YtedebbmgijcpfaaDoorSelM
set_option linter.unusedVariables false
set_option linter.unusedSimpArgs false
set_option linter.unusedVariables false
namespace Go.Eng
open Go.Proofs
def rot (x : Int) (k : Nat) : Int := bits .u32 .or (IntKind.u32.wrap (x * 2 ^ k)) (Int.fdiv x (2 ^ (32 - k)))
def xo (x y : Int) : Int := bits .u32 .xor x y
def ad (x y : Int) : Int := IntKind.u32.wrap (x + y)
def qr (a b c d : Int) : Int × Int × Int × Int :=
 let a1 := ad a b
 let d1 := rot (xo d a1) 16
 let c1 := ad c d1
 let b1 := rot (xo b c1) 12
 let a2 := ad a1 b1
 let d2 := rot (xo d1 a2) 8
 let c2 := ad c1 d2
 let b2 := rot (xo b1 c2) 7
 (a2, b2, c2, d2)
end Go.Eng
