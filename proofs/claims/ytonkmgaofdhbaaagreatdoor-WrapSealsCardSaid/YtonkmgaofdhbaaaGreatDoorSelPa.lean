/-
  Part of a proof: SelPa.
-/
import Derived.Test.YtonkmgaofdhbaaaGreatDoorKemSa
import Derived.KernelRfl
import Derived.Test.YtonkmgaofdhbaaaGreatDoorSealPa
import Derived.Test.YtonkmgaofdhbaaaGreatDoorSelOa
set_option linter.unusedVariables false
set_option linter.unusedSimpArgs false
set_option linter.unusedVariables false
namespace Go.Eng
open Go.Proofs
def rot (x:Int) (k:Nat):Int:=bits .u32 .or (IntKind.u32.wrap (x*2^k)) (Int.fdiv x (2^(32-k)))
def xo (x y:Int):Int:=bits .u32 .xor x y
def ad (x y:Int):Int:=IntKind.u32.wrap (x+y)
def qr (a b c d:Int):Int×Int×Int×Int :=
 let a1:=ad a b
 let d1:=rot (xo d a1) 16
 let c1:=ad c d1
 let b1:=rot (xo b c1) 12
 let a2:=ad a1 b1
 let d2:=rot (xo d1 a2) 8
 let c2:=ad c1 d2
 let b2:=rot (xo b1 c2) 7
 (a2,b2,c2,d2)
end Go.Eng
set_option linter.unusedVariables false
namespace Go.Eng
open Go.Proofs
set_option maxRecDepth 100000
set_option maxHeartbeats 1000000
def qs0:List Int->List Int
 |[a0,a1,a2,a3,a4,a5,a6,a7,a8,a9,a10,a11,a12,a13,a14,a15]=>[(qr a0 a4 a8 a12).1,a1,a2,a3,(qr a0 a4 a8 a12).2.1,a5,a6,a7,(qr a0 a4 a8 a12).2.2.1,a9,a10,a11,(qr a0 a4 a8 a12).2.2.2,a13,a14,a15]
 |l=>l
theorem j68 (a0 a1 a2 a3 a4 a5 a6 a7 a8 a9 a10 a11 a12 a13 a14 a15:Int):o7 16 0 4 8 12 [a0,a1,a2,a3,a4,a5,a6,a7,a8,a9,a10,a11,a12,a13,a14,a15]=some (qs0 [a0,a1,a2,a3,a4,a5,a6,a7,a8,a9,a10,a11,a12,a13,a14,a15]):=by kernel_rfl
theorem j69 (a0 a1 a2 a3 a4 a5 a6 a7 a8 a9 a10 a11 a12 a13 a14 a15:Int):j0 0 4 8 12 [a0,a1,a2,a3,a4,a5,a6,a7,a8,a9,a10,a11,a12,a13,a14,a15]=some (qs0 [a0,a1,a2,a3,a4,a5,a6,a7,a8,a9,a10,a11,a12,a13,a14,a15]):=by kernel_rfl
def qs1:List Int->List Int
 |[a0,a1,a2,a3,a4,a5,a6,a7,a8,a9,a10,a11,a12,a13,a14,a15]=>[a0,(qr a1 a5 a9 a13).1,a2,a3,a4,(qr a1 a5 a9 a13).2.1,a6,a7,a8,(qr a1 a5 a9 a13).2.2.1,a10,a11,a12,(qr a1 a5 a9 a13).2.2.2,a14,a15]
 |l=>l
theorem j70 (a0 a1 a2 a3 a4 a5 a6 a7 a8 a9 a10 a11 a12 a13 a14 a15:Int):o7 16 1 5 9 13 [a0,a1,a2,a3,a4,a5,a6,a7,a8,a9,a10,a11,a12,a13,a14,a15]=some (qs1 [a0,a1,a2,a3,a4,a5,a6,a7,a8,a9,a10,a11,a12,a13,a14,a15]):=by kernel_rfl
theorem j71 (a0 a1 a2 a3 a4 a5 a6 a7 a8 a9 a10 a11 a12 a13 a14 a15:Int):j0 1 5 9 13 [a0,a1,a2,a3,a4,a5,a6,a7,a8,a9,a10,a11,a12,a13,a14,a15]=some (qs1 [a0,a1,a2,a3,a4,a5,a6,a7,a8,a9,a10,a11,a12,a13,a14,a15]):=by kernel_rfl
def qs2:List Int->List Int
 |[a0,a1,a2,a3,a4,a5,a6,a7,a8,a9,a10,a11,a12,a13,a14,a15]=>[a0,a1,(qr a2 a6 a10 a14).1,a3,a4,a5,(qr a2 a6 a10 a14).2.1,a7,a8,a9,(qr a2 a6 a10 a14).2.2.1,a11,a12,a13,(qr a2 a6 a10 a14).2.2.2,a15]
 |l=>l
theorem j72 (a0 a1 a2 a3 a4 a5 a6 a7 a8 a9 a10 a11 a12 a13 a14 a15:Int):o7 16 2 6 10 14 [a0,a1,a2,a3,a4,a5,a6,a7,a8,a9,a10,a11,a12,a13,a14,a15]=some (qs2 [a0,a1,a2,a3,a4,a5,a6,a7,a8,a9,a10,a11,a12,a13,a14,a15]):=by kernel_rfl
theorem j73 (a0 a1 a2 a3 a4 a5 a6 a7 a8 a9 a10 a11 a12 a13 a14 a15:Int):j0 2 6 10 14 [a0,a1,a2,a3,a4,a5,a6,a7,a8,a9,a10,a11,a12,a13,a14,a15]=some (qs2 [a0,a1,a2,a3,a4,a5,a6,a7,a8,a9,a10,a11,a12,a13,a14,a15]):=by kernel_rfl
def qs3:List Int->List Int
 |[a0,a1,a2,a3,a4,a5,a6,a7,a8,a9,a10,a11,a12,a13,a14,a15]=>[a0,a1,a2,(qr a3 a7 a11 a15).1,a4,a5,a6,(qr a3 a7 a11 a15).2.1,a8,a9,a10,(qr a3 a7 a11 a15).2.2.1,a12,a13,a14,(qr a3 a7 a11 a15).2.2.2]
 |l=>l
theorem j74 (a0 a1 a2 a3 a4 a5 a6 a7 a8 a9 a10 a11 a12 a13 a14 a15:Int):o7 16 3 7 11 15 [a0,a1,a2,a3,a4,a5,a6,a7,a8,a9,a10,a11,a12,a13,a14,a15]=some (qs3 [a0,a1,a2,a3,a4,a5,a6,a7,a8,a9,a10,a11,a12,a13,a14,a15]):=by kernel_rfl
theorem j75 (a0 a1 a2 a3 a4 a5 a6 a7 a8 a9 a10 a11 a12 a13 a14 a15:Int):j0 3 7 11 15 [a0,a1,a2,a3,a4,a5,a6,a7,a8,a9,a10,a11,a12,a13,a14,a15]=some (qs3 [a0,a1,a2,a3,a4,a5,a6,a7,a8,a9,a10,a11,a12,a13,a14,a15]):=by kernel_rfl
def qs4:List Int->List Int
 |[a0,a1,a2,a3,a4,a5,a6,a7,a8,a9,a10,a11,a12,a13,a14,a15]=>[(qr a0 a5 a10 a15).1,a1,a2,a3,a4,(qr a0 a5 a10 a15).2.1,a6,a7,a8,a9,(qr a0 a5 a10 a15).2.2.1,a11,a12,a13,a14,(qr a0 a5 a10 a15).2.2.2]
 |l=>l
theorem j76 (a0 a1 a2 a3 a4 a5 a6 a7 a8 a9 a10 a11 a12 a13 a14 a15:Int):o7 16 0 5 10 15 [a0,a1,a2,a3,a4,a5,a6,a7,a8,a9,a10,a11,a12,a13,a14,a15]=some (qs4 [a0,a1,a2,a3,a4,a5,a6,a7,a8,a9,a10,a11,a12,a13,a14,a15]):=by kernel_rfl
theorem j77 (a0 a1 a2 a3 a4 a5 a6 a7 a8 a9 a10 a11 a12 a13 a14 a15:Int):j0 0 5 10 15 [a0,a1,a2,a3,a4,a5,a6,a7,a8,a9,a10,a11,a12,a13,a14,a15]=some (qs4 [a0,a1,a2,a3,a4,a5,a6,a7,a8,a9,a10,a11,a12,a13,a14,a15]):=by kernel_rfl
def qs5:List Int->List Int
 |[a0,a1,a2,a3,a4,a5,a6,a7,a8,a9,a10,a11,a12,a13,a14,a15]=>[a0,(qr a1 a6 a11 a12).1,a2,a3,a4,a5,(qr a1 a6 a11 a12).2.1,a7,a8,a9,a10,(qr a1 a6 a11 a12).2.2.1,(qr a1 a6 a11 a12).2.2.2,a13,a14,a15]
 |l=>l
theorem j78 (a0 a1 a2 a3 a4 a5 a6 a7 a8 a9 a10 a11 a12 a13 a14 a15:Int):o7 16 1 6 11 12 [a0,a1,a2,a3,a4,a5,a6,a7,a8,a9,a10,a11,a12,a13,a14,a15]=some (qs5 [a0,a1,a2,a3,a4,a5,a6,a7,a8,a9,a10,a11,a12,a13,a14,a15]):=by kernel_rfl
theorem j79 (a0 a1 a2 a3 a4 a5 a6 a7 a8 a9 a10 a11 a12 a13 a14 a15:Int):j0 1 6 11 12 [a0,a1,a2,a3,a4,a5,a6,a7,a8,a9,a10,a11,a12,a13,a14,a15]=some (qs5 [a0,a1,a2,a3,a4,a5,a6,a7,a8,a9,a10,a11,a12,a13,a14,a15]):=by kernel_rfl
def qs6:List Int->List Int
 |[a0,a1,a2,a3,a4,a5,a6,a7,a8,a9,a10,a11,a12,a13,a14,a15]=>[a0,a1,(qr a2 a7 a8 a13).1,a3,a4,a5,a6,(qr a2 a7 a8 a13).2.1,(qr a2 a7 a8 a13).2.2.1,a9,a10,a11,a12,(qr a2 a7 a8 a13).2.2.2,a14,a15]
 |l=>l
theorem j80 (a0 a1 a2 a3 a4 a5 a6 a7 a8 a9 a10 a11 a12 a13 a14 a15:Int):o7 16 2 7 8 13 [a0,a1,a2,a3,a4,a5,a6,a7,a8,a9,a10,a11,a12,a13,a14,a15]=some (qs6 [a0,a1,a2,a3,a4,a5,a6,a7,a8,a9,a10,a11,a12,a13,a14,a15]):=by kernel_rfl
theorem j81 (a0 a1 a2 a3 a4 a5 a6 a7 a8 a9 a10 a11 a12 a13 a14 a15:Int):j0 2 7 8 13 [a0,a1,a2,a3,a4,a5,a6,a7,a8,a9,a10,a11,a12,a13,a14,a15]=some (qs6 [a0,a1,a2,a3,a4,a5,a6,a7,a8,a9,a10,a11,a12,a13,a14,a15]):=by kernel_rfl
def qs7:List Int->List Int
 |[a0,a1,a2,a3,a4,a5,a6,a7,a8,a9,a10,a11,a12,a13,a14,a15]=>[a0,a1,a2,(qr a3 a4 a9 a14).1,(qr a3 a4 a9 a14).2.1,a5,a6,a7,a8,(qr a3 a4 a9 a14).2.2.1,a10,a11,a12,a13,(qr a3 a4 a9 a14).2.2.2,a15]
 |l=>l
theorem j82 (a0 a1 a2 a3 a4 a5 a6 a7 a8 a9 a10 a11 a12 a13 a14 a15:Int):o7 16 3 4 9 14 [a0,a1,a2,a3,a4,a5,a6,a7,a8,a9,a10,a11,a12,a13,a14,a15]=some (qs7 [a0,a1,a2,a3,a4,a5,a6,a7,a8,a9,a10,a11,a12,a13,a14,a15]):=by kernel_rfl
theorem j83 (a0 a1 a2 a3 a4 a5 a6 a7 a8 a9 a10 a11 a12 a13 a14 a15:Int):j0 3 4 9 14 [a0,a1,a2,a3,a4,a5,a6,a7,a8,a9,a10,a11,a12,a13,a14,a15]=some (qs7 [a0,a1,a2,a3,a4,a5,a6,a7,a8,a9,a10,a11,a12,a13,a14,a15]):=by kernel_rfl
end Go.Eng
set_option linter.unusedVariables false
set_option linter.unusedSimpArgs false
namespace Go.Eng
open Go.Proofs
set_option maxRecDepth 100000
set_option maxHeartbeats 1000000
theorem l16 {α:Type} {l:List α} (h:l.length=16):∃ a0 a1 a2 a3 a4 a5 a6 a7 a8 a9 a10 a11 a12 a13 a14 a15,l=[a0,a1,a2,a3,a4,a5,a6,a7,a8,a9,a10,a11,a12,a13,a14,a15]:=by
 match l,h with
 |[a0,a1,a2,a3,a4,a5,a6,a7,a8,a9,a10,a11,a12,a13,a14,a15],_=>exact ⟨_,_,_,_,_,_,_,_,_,_,_,_,_,_,_,_,rfl⟩
theorem rq0 {l:List Int} (h:l.length=16):o7 16 0 4 8 12 l=some (qs0 l)/\j0 0 4 8 12 l=some (qs0 l)/\(qs0 l).length=16:=by
 obtain ⟨a0,a1,a2,a3,a4,a5,a6,a7,a8,a9,a10,a11,a12,a13,a14,a15,rfl⟩:=l16 h
 exact ⟨j68 ..,j69 ..,rfl⟩
theorem rq1 {l:List Int} (h:l.length=16):o7 16 1 5 9 13 l=some (qs1 l)/\j0 1 5 9 13 l=some (qs1 l)/\(qs1 l).length=16:=by
 obtain ⟨a0,a1,a2,a3,a4,a5,a6,a7,a8,a9,a10,a11,a12,a13,a14,a15,rfl⟩:=l16 h
 exact ⟨j70 ..,j71 ..,rfl⟩
theorem rq2 {l:List Int} (h:l.length=16):o7 16 2 6 10 14 l=some (qs2 l)/\j0 2 6 10 14 l=some (qs2 l)/\(qs2 l).length=16:=by
 obtain ⟨a0,a1,a2,a3,a4,a5,a6,a7,a8,a9,a10,a11,a12,a13,a14,a15,rfl⟩:=l16 h
 exact ⟨j72 ..,j73 ..,rfl⟩
theorem rq3 {l:List Int} (h:l.length=16):o7 16 3 7 11 15 l=some (qs3 l)/\j0 3 7 11 15 l=some (qs3 l)/\(qs3 l).length=16:=by
 obtain ⟨a0,a1,a2,a3,a4,a5,a6,a7,a8,a9,a10,a11,a12,a13,a14,a15,rfl⟩:=l16 h
 exact ⟨j74 ..,j75 ..,rfl⟩
theorem rq4 {l:List Int} (h:l.length=16):o7 16 0 5 10 15 l=some (qs4 l)/\j0 0 5 10 15 l=some (qs4 l)/\(qs4 l).length=16:=by
 obtain ⟨a0,a1,a2,a3,a4,a5,a6,a7,a8,a9,a10,a11,a12,a13,a14,a15,rfl⟩:=l16 h
 exact ⟨j76 ..,j77 ..,rfl⟩
theorem rq5 {l:List Int} (h:l.length=16):o7 16 1 6 11 12 l=some (qs5 l)/\j0 1 6 11 12 l=some (qs5 l)/\(qs5 l).length=16:=by
 obtain ⟨a0,a1,a2,a3,a4,a5,a6,a7,a8,a9,a10,a11,a12,a13,a14,a15,rfl⟩:=l16 h
 exact ⟨j78 ..,j79 ..,rfl⟩
theorem rq6 {l:List Int} (h:l.length=16):o7 16 2 7 8 13 l=some (qs6 l)/\j0 2 7 8 13 l=some (qs6 l)/\(qs6 l).length=16:=by
 obtain ⟨a0,a1,a2,a3,a4,a5,a6,a7,a8,a9,a10,a11,a12,a13,a14,a15,rfl⟩:=l16 h
 exact ⟨j80 ..,j81 ..,rfl⟩
theorem rq7 {l:List Int} (h:l.length=16):o7 16 3 4 9 14 l=some (qs7 l)/\j0 3 4 9 14 l=some (qs7 l)/\(qs7 l).length=16:=by
 obtain ⟨a0,a1,a2,a3,a4,a5,a6,a7,a8,a9,a10,a11,a12,a13,a14,a15,rfl⟩:=l16 h
 exact ⟨j82 ..,j83 ..,rfl⟩
def j84 (l:List Int):List Int:=qs7 (qs6 (qs5 (qs4 (qs3 (qs2 (qs1 (qs0 l)))))))
theorem a34 {l:List Int} (h:l.length=16):(j84 l).length=16:=(rq7 (rq6 (rq5 (rq4 (rq3 (rq2 (rq1 (rq0 h).2.2).2.2).2.2).2.2).2.2).2.2).2.2).2.2
theorem j85 (l:List Int):E9 f9 0 l=(j0 0 4 8 12 l).bind fun l=>(j0 1 5 9 13 l).bind fun l=>(j0 2 6 10 14 l).bind fun l=>(j0 3 7 11 15 l).bind fun l=>some l:=by kernel_rfl
theorem j86 (l:List Int):F0 f9 0 l=(j0 0 5 10 15 l).bind fun l=>(j0 1 6 11 12 l).bind fun l=>(j0 2 7 8 13 l).bind fun l=>(j0 3 4 9 14 l).bind fun l=>some l:=by kernel_rfl
theorem c73 {l:List Int} (h:l.length=16):D8 l=some (j84 l):=by
 have h1:=(rq0 h).2.2
 have h2:=(rq1 h1).2.2
 have h3:=(rq2 h2).2.2
 have h4:=(rq3 h3).2.2
 have h5:=(rq4 h4).2.2
 have h6:=(rq5 h5).2.2
 have h7:=(rq6 h6).2.2
 unfold D8
 rw [j85,(rq0 h).2.1,Option.bind_some,(rq1 h1).2.1,Option.bind_some,(rq2 h2).2.1,Option.bind_some,(rq3 h3).2.1,Option.bind_some,Option.bind_some,j86,(rq4 h4).2.1,Option.bind_some,(rq5 h5).2.1,Option.bind_some,(rq6 h6).2.1,Option.bind_some,(rq7 h7).2.1,Option.bind_some,Option.bind_some]
 rfl
end Go.Eng
set_option linter.unusedVariables false
set_option linter.unusedSimpArgs false
namespace Go.Eng
open Go.Proofs
set_option maxRecDepth 100000
set_option maxHeartbeats 1000000
def i25:Nat->List Int->List Int
 |0,l=>l
 |n+1,l=>i25 n (j84 l)
theorem e72:∀ (n:Nat) {l:List Int},l.length=16->(i25 n l).length=16
 |0,_,h=>h
 |n+1,_,h=>e72 n (a34 h)
def by4 (x:Int):List Int:=[(IntKind.wrap .u8 x),(IntKind.wrap .u8 (Int.fdiv x (2^8))),(IntKind.wrap .u8 (Int.fdiv x (2^16))),(IntKind.wrap .u8 (Int.fdiv x (2^24)))]
def g89:List Int->List Int->List Int
 |x::xs,s::ss=>by4 (IntKind.wrap .u32 (x+s))++g89 xs ss
 |_,_=>[]
def orW (b0 b1 b2 b3:Int):Int:=bits .u32 .or (bits .u32 .or (bits .u32 .or (IntKind.wrap .u32 b0) (IntKind.wrap .u32 ((IntKind.wrap .u32 b1)*2^8))) (IntKind.wrap .u32 ((IntKind.wrap .u32 b2)*2^16))) (IntKind.wrap .u32 ((IntKind.wrap .u32 b3)*2^24))
def Pb (b0 b1 b2 b3:Int):Int:=IntKind.wrap .u32 ((IntKind.wrap .u32 ((IntKind.wrap .u32 ((IntKind.wrap .u32 b0)+(IntKind.wrap .u32 (256*(IntKind.wrap .u32 b1)))))+(IntKind.wrap .u32 (65536*(IntKind.wrap .u32 b2)))))+(IntKind.wrap .u32 (16777216*(IntKind.wrap .u32 b3))))
theorem Qs (n:Int):IntKind.u32.wrap n=n%4294967296:=by simp [IntKind.wrap,IntKind.bits,IntKind.signed]
theorem g90 {n m:Nat} (hn:n<4294967296) (hm:m<4294967296):bits .u32 .or (n:Int) (m:Int)=((n|||m:Nat):Int):=by
 show IntKind.u32.wrap (((BitVec.ofInt 32 n|||BitVec.ofInt 32 m:BitVec 32).toNat:Nat):Int)=_
 rw [BitVec.ofInt_natCast,BitVec.ofInt_natCast,BitVec.toNat_or,BitVec.toNat_ofNat,BitVec.toNat_ofNat,Qs]
 simp only [Nat.reducePow]
 rw [Nat.mod_eq_of_lt hn,Nat.mod_eq_of_lt hm,Int.emod_eq_of_lt (by omega)]
 have:=Nat.or_lt_two_pow (n:=32) hn hm
 omega
theorem j04 {a r b:Nat} (h:a<2^r):a|||(b*2^r)=a+2^r*b:=by
 rw [Nat.mul_comm b,Nat.or_comm,←Nat.two_pow_add_eq_or_of_lt h,Nat.add_comm]
theorem b56 {a b:Nat} (r:Nat) (h:a<2^r) (hb:b*2^r<4294967296) (ha:a<4294967296):bits .u32 .or (a:Int) (((b*2^r:Nat)):Int)=((a+2^r*b:Nat):Int):=by
 rw [g90 ha hb,j04 h]
theorem i26 {b0 b1 b2 b3:Int} (h0:0≤b0/\b0<256) (h1:0≤b1/\b1<256) (h2:0≤b2/\b2<256) (h3:0≤b3/\b3<256):orW b0 b1 b2 b3=Pb b0 b1 b2 b3:=by
 obtain ⟨x0,rfl⟩:=Int.eq_ofNat_of_zero_le h0.1
 obtain ⟨x1,rfl⟩:=Int.eq_ofNat_of_zero_le h1.1
 obtain ⟨x2,rfl⟩:=Int.eq_ofNat_of_zero_le h2.1
 obtain ⟨x3,rfl⟩:=Int.eq_ofNat_of_zero_le h3.1
 have e1:((x1:Int)%4294967296*2^8)%4294967296=((x1*2^8:Nat):Int):=by omega
 have e2:((x2:Int)%4294967296*2^16)%4294967296=((x2*2^16:Nat):Int):=by omega
 have e3:((x3:Int)%4294967296*2^24)%4294967296=((x3*2^24:Nat):Int):=by omega
 have e0:((x0:Int)%4294967296)=((x0:Nat):Int):=by omega
 unfold orW Pb
 simp only [Qs,e1,e2,e3,e0]
 rw [b56 8 (by omega) (by omega) (by omega),b56 16 (by omega) (by omega) (by omega),b56 24 (by omega) (by omega) (by omega)]
 omega
theorem i27 (c k0 k1 k2 k3 k4 k5 k6 k7 k8 k9 k10 k11 k12 k13 k14 k15 k16 k17 k18 k19 k20 k21 k22 k23 k24 k25 k26 k27 k28 k29 k30 k31 n0 n1 n2 n3 n4 n5 n6 n7 n8 n9 n10 n11:Int) :
  Er [k0,k1,k2,k3,k4,k5,k6,k7,k8,k9,k10,k11,k12,k13,k14,k15,k16,k17,k18,k19,k20,k21,k22,k23,k24,k25,k26,k27,k28,k29,k30,k31] c [n0,n1,n2,n3,n4,n5,n6,n7,n8,n9,n10,n11]
  = some [1634760805,857760878,2036477234,1797285236,orW k0 k1 k2 k3,orW k4 k5 k6 k7,orW k8 k9 k10 k11,orW k12 k13 k14 k15,orW k16 k17 k18 k19,orW k20 k21 k22 k23,orW k24 k25 k26 k27,orW k28 k29 k30 k31,c,orW n0 n1 n2 n3,orW n4 n5 n6 n7,orW n8 n9 n10 n11]:=by kernel_rfl
theorem i28 (k0 k1 k2 k3 k4 k5 k6 k7 k8 k9 k10 k11 k12 k13 k14 k15 k16 k17 k18 k19 k20 k21 k22 k23 k24 k25 k26 k27 k28 k29 k30 k31:Int) :
  Cc [k0,k1,k2,k3,k4,k5,k6,k7,k8,k9,k10,k11,k12,k13,k14,k15,k16,k17,k18,k19,k20,k21,k22,k23,k24,k25,k26,k27,k28,k29,k30,k31] f9 0 [1634760805,857760878,2036477234,1797285236]
  = some [1634760805,857760878,2036477234,1797285236,Pb k0 k1 k2 k3,Pb k4 k5 k6 k7,Pb k8 k9 k10 k11,Pb k12 k13 k14 k15,Pb k16 k17 k18 k19,Pb k20 k21 k22 k23,Pb k24 k25 k26 k27,Pb k28 k29 k30 k31]:=by kernel_rfl
theorem j87 (n0 n1 n2 n3 n4 n5 n6 n7 n8 n9 n10 n11:Int):Bj [n0,n1,n2,n3,n4,n5,n6,n7,n8,n9,n10,n11] 0=some (Pb n0 n1 n2 n3):=by kernel_rfl
theorem j88 (n0 n1 n2 n3 n4 n5 n6 n7 n8 n9 n10 n11:Int):Bj [n0,n1,n2,n3,n4,n5,n6,n7,n8,n9,n10,n11] 1=some (Pb n4 n5 n6 n7):=by kernel_rfl
theorem j89 (n0 n1 n2 n3 n4 n5 n6 n7 n8 n9 n10 n11:Int):Bj [n0,n1,n2,n3,n4,n5,n6,n7,n8,n9,n10,n11] 2=some (Pb n8 n9 n10 n11):=by kernel_rfl
theorem j05 {s x:List Int} (hs:s.length=16) (hx:x.length=16):Y7 s x f9 0 []=some (g89 x s):=by
 obtain ⟨a0,a1,a2,a3,a4,a5,a6,a7,a8,a9,a10,a11,a12,a13,a14,a15,rfl⟩:=l16 hs
 obtain ⟨b0,b1,b2,b3,b4,b5,b6,b7,b8,b9,b10,b11,b12,b13,b14,b15,rfl⟩:=l16 hx
 kernel_rfl
theorem j06 {s x:List Int} {c n1 n2 n3:Int} (hs:s.length=12) (hx:x.length=16):Cd c s n1 n2 n3 x f9 0 []=some (g89 x (s++[c,n1,n2,n3])):=by
 obtain ⟨a0,a1,a2,a3,a4,a5,a6,a7,a8,a9,a10,a11,rfl⟩:=f23 hs
 obtain ⟨b0,b1,b2,b3,b4,b5,b6,b7,b8,b9,b10,b11,b12,b13,b14,b15,rfl⟩:=l16 hx
 kernel_rfl
theorem b57 (s:List Int) (hs:s.length=16):∀ (m n i:Nat) (x:List Int),i+m=10->m<n->x.length=16->L9 s n (i:Int) x=some (.inl (g89 (i25 m x) s))
 |_,0,_,_,_,h,_=>absurd h (Nat.not_lt_zero _)
 |0,n+1,i,x,h1,h2,hx=>by
  rw [L9.eq_2,i0 (by simp<;>omega)]
  rw [j05 hs hx];rfl
 |m+1,n+1,i,x,h1,h2,hx=>by
  rw [L9.eq_2,j7 (by simp<;>omega),c73 hx,Option.bind_some,q6 (by omega) (by omega)]
  exact b57 s hs m n (i+1) _ (by omega) (by omega) (a34 hx)
theorem b58 {c:Int} {s:List Int} {a b d:Int} (hs:s.length=12):∀ (m n i:Nat) (x:List Int),i+m=10->m<n->x.length=16->T0 c s a b d n (i:Int) x=some (i25 m x)
 |_,0,_,_,_,h,_=>absurd h (Nat.not_lt_zero _)
 |0,n+1,i,x,h1,h2,hx=>by
  rw [T0.eq_2,i0 (by simp<;>omega)];rfl
 |m+1,n+1,i,x,h1,h2,hx=>by
  have hl:List.length (([]:List Int)++(s++[c,a,b,d]))=16:=by simp [hs]
  have h1':=(rq0 hx).2.2
  have h2':=(rq1 h1').2.2
  have h3:=(rq2 h2').2.2
  have h4:=(rq3 h3).2.2
  have h5:=(rq4 h4).2.2
  have h6:=(rq5 h5).2.2
  have h7:=(rq6 h6).2.2
  rw [T0.eq_2,j7 (by simp<;>omega),hl,(rq0 hx).1,Option.bind_some,(rq1 h1').1,Option.bind_some,(rq2 h2').1,Option.bind_some,(rq3 h3).1,Option.bind_some,(rq4 h4).1,Option.bind_some,(rq5 h5).1,Option.bind_some,(rq6 h6).1,Option.bind_some,(rq7 h7).1,Option.bind_some,q6 (by omega) (by omega)]
  exact b58 hs m n (i+1) _ (by omega) (by omega) (a34 hx)
end Go.Eng
set_option linter.unusedVariables false
set_option linter.unusedSimpArgs false
namespace Go.Eng
open Go.Proofs
set_option maxRecDepth 100000
set_option maxHeartbeats 1000000
theorem e73:∀ x s:List Int,Ci (g89 x s)
 |[],_=>fun y hy=>by cases hy
 |_::_,[]=>fun y hy=>by cases hy
 |x::xs,s::ss=>fun y hy=>by
  have hw:∀ z:Int,0≤IntKind.wrap .u8 z/\IntKind.wrap .u8 z<256:=fun z=>by rw [Hz];omega
  rcases List.mem_append.1 hy with hy|hy
  ·simp only [by4,List.mem_cons,List.not_mem_nil,or_false] at hy
   rcases hy with rfl|rfl|rfl|rfl<;>exact hw _
  ·exact e73 xs ss y hy
theorem b59 {k n:List Int} (c:Int) (hk:k.length=32) (hn:n.length=12) (kb:Ci k) (nb:Ci n):∃ b,G9 k c n=some (.inl b)/\Cx k c n=some b/\Ci b:=by
 obtain ⟨k0,k1,k2,k3,k4,k5,k6,k7,k8,k9,k10,k11,k12,k13,k14,k15,k16,k17,k18,k19,k20,k21,k22,k23,k24,k25,k26,k27,k28,k29,k30,k31,rfl⟩:=Jk hk
 obtain ⟨n0,n1,n2,n3,n4,n5,n6,n7,n8,n9,n10,n11,rfl⟩:=f23 hn
 have q:∀ a b d e,a∈[k0,k1,k2,k3,k4,k5,k6,k7,k8,k9,k10,k11,k12,k13,k14,k15,k16,k17,k18,k19,k20,k21,k22,k23,k24,k25,k26,k27,k28,k29,k30,k31]->b∈[k0,k1,k2,k3,k4,k5,k6,k7,k8,k9,k10,k11,k12,k13,k14,k15,k16,k17,k18,k19,k20,k21,k22,k23,k24,k25,k26,k27,k28,k29,k30,k31]->d∈[k0,k1,k2,k3,k4,k5,k6,k7,k8,k9,k10,k11,k12,k13,k14,k15,k16,k17,k18,k19,k20,k21,k22,k23,k24,k25,k26,k27,k28,k29,k30,k31]->e∈[k0,k1,k2,k3,k4,k5,k6,k7,k8,k9,k10,k11,k12,k13,k14,k15,k16,k17,k18,k19,k20,k21,k22,k23,k24,k25,k26,k27,k28,k29,k30,k31]->orW a b d e=Pb a b d e :=
  fun a b d e h1 h2 h3 h4=>i26 (kb _ h1) (kb _ h2) (kb _ h3) (kb _ h4)
 have r:∀ a b d e,a∈[n0,n1,n2,n3,n4,n5,n6,n7,n8,n9,n10,n11]->b∈[n0,n1,n2,n3,n4,n5,n6,n7,n8,n9,n10,n11]->d∈[n0,n1,n2,n3,n4,n5,n6,n7,n8,n9,n10,n11]->e∈[n0,n1,n2,n3,n4,n5,n6,n7,n8,n9,n10,n11]->orW a b d e=Pb a b d e :=
  fun a b d e h1 h2 h3 h4=>i26 (nb _ h1) (nb _ h2) (nb _ h3) (nb _ h4)
 have hb:=i27 c k0 k1 k2 k3 k4 k5 k6 k7 k8 k9 k10 k11 k12 k13 k14 k15 k16 k17 k18 k19 k20 k21 k22 k23 k24 k25 k26 k27 k28 k29 k30 k31 n0 n1 n2 n3 n4 n5 n6 n7 n8 n9 n10 n11
 rw [q k0 k1 k2 k3 (by simp) (by simp) (by simp) (by simp),q k4 k5 k6 k7 (by simp) (by simp) (by simp) (by simp),q k8 k9 k10 k11 (by simp) (by simp) (by simp) (by simp),q k12 k13 k14 k15 (by simp) (by simp) (by simp) (by simp),q k16 k17 k18 k19 (by simp) (by simp) (by simp) (by simp),q k20 k21 k22 k23 (by simp) (by simp) (by simp) (by simp),q k24 k25 k26 k27 (by simp) (by simp) (by simp) (by simp),q k28 k29 k30 k31 (by simp) (by simp) (by simp) (by simp),r n0 n1 n2 n3 (by simp) (by simp) (by simp) (by simp),r n4 n5 n6 n7 (by simp) (by simp) (by simp) (by simp),r n8 n9 n10 n11 (by simp) (by simp) (by simp) (by simp)] at hb
 have hw:=i28 k0 k1 k2 k3 k4 k5 k6 k7 k8 k9 k10 k11 k12 k13 k14 k15 k16 k17 k18 k19 k20 k21 k22 k23 k24 k25 k26 k27 k28 k29 k30 k31
 generalize hs:([1634760805,857760878,2036477234,1797285236,Pb k0 k1 k2 k3,Pb k4 k5 k6 k7,Pb k8 k9 k10 k11,Pb k12 k13 k14 k15,Pb k16 k17 k18 k19,Pb k20 k21 k22 k23,Pb k24 k25 k26 k27,Pb k28 k29 k30 k31]:List Int)=s at hw
 have hsl:s.length=12:=by rw [←hs];rfl
 have hb':Er [k0,k1,k2,k3,k4,k5,k6,k7,k8,k9,k10,k11,k12,k13,k14,k15,k16,k17,k18,k19,k20,k21,k22,k23,k24,k25,k26,k27,k28,k29,k30,k31] c [n0,n1,n2,n3,n4,n5,n6,n7,n8,n9,n10,n11]=some (s++[c,Pb n0 n1 n2 n3,Pb n4 n5 n6 n7,Pb n8 n9 n10 n11]):=by rw [hb,←hs];rfl
 have hl:(s++[c,Pb n0 n1 n2 n3,Pb n4 n5 n6 n7,Pb n8 n9 n10 n11]).length=16:=by simp [hsl]
 refine ⟨g89 (i25 10 (s++[c,Pb n0 n1 n2 n3,Pb n4 n5 n6 n7,Pb n8 n9 n10 n11])) (s++[c,Pb n0 n1 n2 n3,Pb n4 n5 n6 n7,Pb n8 n9 n10 n11]),?_,?_,e73 _ _⟩
 ·unfold G9
  rw [i0 (by rfl),hb',Option.bind_some,c73 hl,Option.bind_some]
  exact b57 _ hl 9 f9 1 _ (by omega) (by decide) (a34 hl)
 ·unfold Cx
  rw [hw,Option.bind_some,j87,Option.bind_some,j88,Option.bind_some,j89,Option.bind_some,if_pos (by simp [hsl]),if_pos (by simp [hsl]),List.nil_append]
  have h10:=b58 (c:=c) (a:=Pb n0 n1 n2 n3) (b:=Pb n4 n5 n6 n7) (d:=Pb n8 n9 n10 n11) hsl 10 f9 0 _ (by omega) (by decide) hl
  rw [show ((0:Nat):Int)=0 from rfl] at h10
  rw [h10,Option.bind_some,j06 hsl (e72 10 hl),Option.bind_some]
theorem c74 {k n:List Int} (c:Int) (hk:k.length=32) (hn:n.length=12) (kb:Ci k) (nb:Ci n):Cx k c n=some (G7 k c n):=by
 obtain ⟨b,h1,h2,_⟩:=b59 c hk hn kb nb
 rw [h2];unfold G7;rw [h1]
theorem g91 {k n:List Int} (c:Int) (hk:k.length=32) (hn:n.length=12) (kb:Ci k) (nb:Ci n):Ci (G7 k c n):=by
 obtain ⟨b,h1,h2,h3⟩:=b59 c hk hn kb nb
 unfold G7;rw [h1];exact h3
theorem c75 {k n:List Int} (hk:k.length=32) (hn:n.length=12):∀ (m:Nat) (c j:Nat) (b:List Int) (i:Nat),c=1+j->j+m<4000000->b.length≤64*m->i<b.length ->
  (Hq k n m (c:Int) b).getD i 0=xr (b.getD i 0) ((G7 k ((c+i/64:Nat):Int) n).getD (i%64) 0)
 |0,c,j,b,i,_,_,h,h'=>by omega
 |m+1,c,j,b,i,hc,hj,h,h'=>by
  have hbl:=(Eg (c:Int) hk hn).2
  show (Dq (b.take 64) (G7 k c n)++Hq k n m (IntKind.wrap .u32 ((c:Int)+1)) (b.drop 64)).getD i 0=_
  have hxl:(Dq (b.take 64) (G7 k c n)).length=min 64 b.length:=by rw [Vu (by rw [hbl,List.length_take];omega),List.length_take]
  by_cases hi:i<64
  ·rw [show i/64=0 by omega,show i%64=i by omega,Nat.add_zero]
   simp only [List.getD]
   rw [List.getElem?_append_left (by omega)]
   unfold Dq
   rw [List.getElem?_zipWith,List.getElem?_take_of_lt hi,List.getElem?_eq_getElem h',List.getElem?_eq_getElem (by omega)]
   rfl
  ·have e:IntKind.wrap .u32 ((c:Int)+1)=((c+1:Nat):Int):=by rw [Qs,Int.emod_eq_of_lt (by omega) (by omega)];rfl
   have ih:=c75 hk hn m (c+1) (j+1) (b.drop 64) (i-64) (by omega) (by omega) (by rw [List.length_drop];omega) (by rw [List.length_drop];omega)
   rw [e]
   rw [show c+1+(i-64)/64=c+i/64 by omega,show (i-64)%64=i%64 by omega] at ih
   simp only [List.getD] at ih ⊢
   rw [List.getElem?_append_right (by omega),show (Dq (b.take 64) (G7 k c n)).length=64 by omega,ih,List.getElem?_drop,show 64+(i-64)=i by omega]
theorem Qt {k nn b:List Int} (hk:k.length=32) (hn:nn.length=12) (kb:Ci k) (nb:Ci nn) (hb:b.length≤65536):∀ (n i:Nat) (o by_:List Int),i≤b.length->b.length<i+n->o=(I3 k nn 1 b).take i->(i%64≠0->by_=G7 k ((1+i/64:Nat):Int) nn) ->
  ∃ z,Y1 k 1 nn b n (i:Int) o by_=some (.inr (.inr (I3 k nn 1 b,z)))
 |0,i,o,by_,h,h',_,_=>by omega
 |n+1,i,o,by_,h,h',ho,hy=>by
  have hTl:(I3 k nn 1 b).length=b.length:=Xp hk hn _ _ _ (by omega)
  rw [Y1.eq_2]
  by_cases hi:i<b.length
  ·have hg:=c75 hk hn 1025 1 0 b i rfl (by omega) (by omega) hi
   have hbl:=(Eg ((1+i/64:Nat):Int) hk hn).2
   have hstep:(I3 k nn 1 b).take i++[bits .u8 .xor (List.getD b i 0) (List.getD (G7 k ((1+i/64:Nat):Int) nn) (i%64) 0)]=(I3 k nn 1 b).take (i+1):=by
    rw [List.take_add_one]
    congr 1
    have:(I3 k nn 1 b).getD i 0=xr (b.getD i 0) ((G7 k ((1+i/64:Nat):Int) nn).getD (i%64) 0):=hg
    rw [List.getD,List.getElem?_eq_getElem (by omega)] at this
    rw [List.getElem?_eq_getElem (by omega)]
    simp only [Option.getD_some] at this
    rw [this];rfl
   have hol:o.length≤65536:=by rw [ho,List.length_take];omega
   have em:Int.tmod (i:Int) 64=((i%64:Nat):Int):=rfl
   have ed:Int.tdiv (i:Int) 64=((i/64:Nat):Int):=rfl
   rw [j7 (by simp<;>omega),if_pos ⟨by omega,by omega⟩]
   rw [em,ed]
   have ec:IntKind.wrap .u32 (1+IntKind.wrap .u32 (IntKind.wrap .i64 ((i/64:Nat):Int)))=((1+i/64:Nat):Int):=by
    rw [q6 (by omega) (by omega),Qs,Qs];omega
   rw [q6 (n:=(i:Int)+1) (by omega) (by omega),show (i:Int)+1=((i+1:Nat):Int) from rfl]
   by_cases h0:i%64=0
   ·rw [j7 (by rw [h0];rfl),m6,ec,c74 _ hk hn kb nb,Option.bind_some,Option.bind_some]
    dsimp only
    rw [if_pos ⟨by omega,by rw [hbl];omega⟩,m6,if_pos (by simp<;>omega),Option.bind_some]
    dsimp only
    rw [Int.toNat_natCast,Int.toNat_natCast,ho,hstep]
    exact Qt hk hn kb nb hb n (i+1) _ _ (by omega) (by omega) rfl (fun hne=>by rw [show (i+1)/64=i/64 by omega])
   ·have hyy:=hy h0
    rw [i0 (by simp<;>omega),Option.bind_some]
    dsimp only
    rw [hyy,if_pos ⟨by omega,by rw [hbl];omega⟩,m6,if_pos (by simp<;>omega),Option.bind_some]
    dsimp only
    rw [Int.toNat_natCast,Int.toNat_natCast,ho,hstep]
    exact Qt hk hn kb nb hb n (i+1) _ _ (by omega) (by omega) rfl (fun hne=>by rw [show (i+1)/64=i/64 by omega])
  ·have:i=b.length:=by omega
   rw [i0 (by simp<;>omega),ho,List.take_of_length_le (by omega)]
   exact ⟨_,rfl⟩
theorem i29 {k nn b:List Int} (hk:k.length=32) (hn:nn.length=12) (kb:Ci k) (nb:Ci nn) (hb:b.length≤65536):Nd k 1 nn b=some (I3 k nn 1 b):=by
 have hF:(1000000:Nat)<f9:=by decide
 obtain ⟨z,h⟩:=Qt hk hn kb nb hb f9 0 [] [] (by omega) (by rw [Nat.zero_add];exact Nat.lt_trans (Nat.lt_of_le_of_lt hb (by decide)) hF) (by simp) (by simp)
 rw [show ((0:Nat):Int)=0 from rfl] at h
 unfold Nd
 rw [h];rfl
end Go.Eng
namespace Go.Eng
set_option maxRecDepth 100000
set_option maxHeartbeats 1000000
theorem j07 {x y:Int} (hx:0≤x/\x<256) (hy:0≤y/\y<256):xr x y=0↔x=y:=by
 constructor
 ·intro h
  have h1:=i09 (x:=y) x hy
  have h2:xr y x=xr x y:=by unfold xr bits;simp only [BitVec.xor_comm]
  rw [h2,h] at h1
  have h3:=i09 (x:=x) x hx
  have h4:xr x x=0:=by unfold xr bits;simp only [BitVec.xor_self];rfl
  rw [h4] at h3
  omega
 ·rintro rfl
  unfold xr bits;simp only [BitVec.xor_self];rfl
def or8 (x y:Int):Int:=bits .u8 .or x y
theorem j08 (x y:Int):0≤or8 x y/\or8 x y<256:=by
 unfold or8 bits;simp only [Hz];omega
theorem i30 {x y:Int} (hx:0≤x/\x<256) (hy:0≤y/\y<256):or8 x y=0↔x=0/\y=0:=by
 obtain ⟨a,rfl⟩:=Int.eq_ofNat_of_zero_le hx.1
 obtain ⟨b,rfl⟩:=Int.eq_ofNat_of_zero_le hy.1
 have ha:a<256:=by omega
 have hb:b<256:=by omega
 unfold or8 bits
 simp only [Hz]
 have h8:IntKind.u8.bits=8:=rfl
 rw [h8,BitVec.ofInt_natCast,BitVec.ofInt_natCast,BitVec.toNat_or,BitVec.toNat_ofNat,BitVec.toNat_ofNat,Nat.mod_eq_of_lt (by omega),Nat.mod_eq_of_lt (by omega)]
 have hlt:a|||b<2^8:=Nat.or_lt_two_pow ha hb
 constructor
 ·intro h
  have h0:a|||b=0:=by omega
  have:=Nat.or_eq_zero_iff.1 h0
  omega
 ·rintro ⟨h1,h2⟩
  have h1:a=0:=by omega
  have h2:b=0:=by omega
  subst h1;subst h2;rfl
theorem e74 {a b:List Int} (ha:Ci a) (hb:Ci b) (hl:a.length=b.length) (hle:a.length≤1000000):∀ (n i:Nat) (c:Int),i≤a.length->a.length<i+n->(0≤c/\c<256) ->
  ∃ r,V3 a b n c (i:Int)=some r/\(r=0↔c=0/\a.drop i=b.drop i)
 |0,i,c,h1,h2,hc=>by omega
 |n+1,i,c,h1,h2,hc=>by
  rw [V3.eq_2]
  by_cases hlt:i<a.length
  ·rw [j7 (by simp<;>omega),if_pos ⟨by omega,by omega⟩,if_pos ⟨by omega,by omega⟩,m6,q6 (by omega) (by omega)]
   have e1:a.drop i=a.getD i 0::a.drop (i+1):=by
    rw [List.drop_eq_getElem_cons hlt];simp [List.getD,List.getElem?_eq_getElem hlt]
   have e2:b.drop i=b.getD i 0::b.drop (i+1):=by
    rw [List.drop_eq_getElem_cons (by omega)];simp [List.getD,List.getElem?_eq_getElem (show i<b.length by omega)]
   have hai:0≤a.getD i 0/\a.getD i 0<256:=ha _ (by simp [List.getD,List.getElem?_eq_getElem hlt])
   have hbi:0≤b.getD i 0/\b.getD i 0<256:=hb _ (by simp [List.getD,List.getElem?_eq_getElem (show i<b.length by omega)])
   obtain ⟨r,hr,hz⟩:=e74 ha hb hl hle n (i+1) (or8 c (xr (a.getD i 0) (b.getD i 0))) (by omega) (by omega) (j08 _ _)
   refine ⟨r,hr,hz.trans ?_⟩
   rw [i30 hc (i08 _ _),j07 hai hbi,e1,e2]
   constructor
   ·rintro ⟨⟨h1,h2⟩,h3⟩;exact ⟨h1,by rw [h2,h3]⟩
   ·rintro ⟨h1,h2⟩;injection h2 with h2 h3;exact ⟨⟨h1,h2⟩,h3⟩
  ·rw [i0 (by simp<;>omega)]
   refine ⟨c,rfl,?_⟩
   rw [List.drop_eq_nil_of_le (by omega),List.drop_eq_nil_of_le (by omega)]
   simp
theorem i31 {a b:List Int} (ha:Ci a) (hb:Ci b) (hle:a.length≤1000000):Gv a b=some (decide (a=b)):=by
 unfold Gv
 by_cases hl:a.length=b.length
 ·rw [i0 (by simp [hl])]
  obtain ⟨f,e,hf⟩:=Jj 1000001 (by decide)
  obtain ⟨r,hr,hz⟩:=e74 ha hb hl hle f9 0 0 (by omega) (by rw [e];omega) (by omega)
  rw [show ((0:Nat):Int)=0 from rfl] at hr
  rw [hr,Option.bind_some]
  congr 1
  rw [List.drop_zero,List.drop_zero] at hz
  by_cases hab:a=b
  ·rw [decide_eq_true hab,hz.2 ⟨rfl,hab⟩];rfl
  ·rw [decide_eq_false hab]
   have:r≠0:=fun h=>hab (hz.1 h).2
   simpa using this
 ·rw [j7 (by simp;omega),decide_eq_false fun h=>hl (by rw [h])]
def b60 (w t:List Int):List Int:=w++Q4 w++t++Q4 t++P0 w++P0 t
theorem g33 {w t:List Int}:(b60 w t).length≤w.length+t.length+46:=by
 unfold b60
 have h1:=(Fm (b:=w)).2
 have h2:=(Fm (b:=t)).2
 have h3:=(Ah w).2
 have h4:=(Ah t).2
 simp only [List.length_append];omega
def Ln (k n w t:List Int):List Int:=(Zs (Hr k n) (b60 w t)).getD []
theorem Xt {k n w t:List Int} (hk:k.length=32) (hn:n.length=12) (hw:w.length≤16384) (ht:t.length≤16384):Zs (Hr k n) (b60 w t)=some (Ln k n w t)/\(Ln k n w t).length=16/\Ci (Ln k n w t):=by
 have:=g33 (w:=w) (t:=t)
 obtain ⟨g,h1,h2,h3⟩:=i13 (e58 hk hn) (m:=b60 w t) (by omega)
 unfold Ln
 rw [h1]
 exact ⟨rfl,h2,h3⟩
theorem tot {w t:List Int} (hw:w.length≤16384) (ht:t.length≤16384):w.length+(Q4 w).length+t.length+(Q4 t).length+(P0 w).length+(P0 t).length≤1000000:=by
 have h1:=(Fm (b:=w)).2
 have h2:=(Fm (b:=t)).2
 have h3:=(Ah w).2
 have h4:=(Ah t).2
 omega
theorem Mt {k n:List Int} (hk:k.length=32) (hn:n.length=12) {c:Int} {b:List Int} (hb:b.length≤65536):(I3 k n c b).length=b.length:=Xp hk hn _ _ _ (by omega)
theorem j09 {k n w p:List Int} (hk:k.length=32) (hn:n.length=12) (hw:w.length≤16384) (hp:p.length≤16384) :
  Be k n w p=some (.inl (I3 k n 1 p++Ln k n w (I3 k n 1 p))):=by
 have hl:=Mt hk hn (c:=1) (b:=p) (by omega)
 obtain ⟨h1,h2,h3⟩:=Xt hk hn hw (t:=I3 k n 1 p) (by omega)
 unfold Be
 rw [i0 (by simp [hn]),i0 (by simp<;>omega),i0 (by simp<;>omega),g08 hk hn 1 (by omega),Option.bind_some]
 dsimp only
 rw [g74 hk hn,Option.bind_some]
 dsimp only
 have hs:=j61 (Hr k n) w (Q4 w) (I3 k n 1 p) (Q4 (I3 k n 1 p)) (P0 w) (P0 (I3 k n 1 p)) (tot hw (by omega))
 rw [(Ah w).2,(Ah (I3 k n 1 p)).2] at hs
 rw [hs]
 show (Zs (Hr k n) (b60 w (I3 k n 1 p))).bind _=_
 rw [h1,Option.bind_some,List.take_of_length_le (by omega),if_pos (by rw [hl,h2];omega)]
theorem g92 {k n w p:List Int} (hn:n.length=12) (h:16384<w.length\/16384<p.length):Be k n w p=some (.inr 3):=by
 unfold Be
 rw [i0 (by simp [hn])]
 by_cases hw:16384<w.length
 ·rw [j7 (by simp<;>omega)]
 ·rw [i0 (by simp<;>omega),j7 (by simp<;>omega)]
theorem g34 {k n w s:List Int} (hk:k.length=32) (hn:n.length=12) (hw:w.length≤16384) (hs:16≤s.length) (hs2:s.length≤16400) (hb:Ci s) :
  Df k n w s=some (if s.drop (s.length-16)=Ln k n w (s.take (s.length-16)) then .inl (I3 k n 1 (s.take (s.length-16))) else .inr 7):=by
 have e16:IntKind.wrap .i64 ((s.length:Int)-16)=((s.length-16:Nat):Int):=by rw [q6 (by omega) (by omega)];omega
 have htl:(s.take (s.length-16)).length=s.length-16:=by rw [List.length_take];omega
 obtain ⟨h1,h2,h3⟩:=Xt hk hn hw (t:=s.take (s.length-16)) (by omega)
 unfold Df
 simp only [m6,e16]
 have e0:((((s.length-16:Nat):Int)-0).toNat)=s.length-16:=by omega
 have e1:(((s.length:Int)-((s.length-16:Nat):Int)).toNat)=16:=by omega
 have e2:(((s.length-16:Nat):Int).toNat)=s.length-16:=by omega
 rw [e0,e1,e2]
 rw [i0 (by simp [hn]),i0 (by simp<;>omega),i0 (by simp<;>omega),i0 (by simp<;>omega),if_pos (by omega),if_pos (by omega),g09 hk hn,Option.bind_some]
 dsimp only
 rw [if_pos ⟨by omega,by omega⟩]
 have hd:List.take 16 (List.drop (s.length-16) s)=s.drop (s.length-16):=List.take_of_length_le (by rw [List.length_drop];omega)
 have hsum:=i14 (Hr k n) w (Q4 w) (s.take (s.length-16)) (Q4 (s.take (s.length-16))) (P0 w) (P0 (s.take (s.length-16))) (tot hw (by omega))
 rw [(Ah w).2,(Ah (s.take (s.length-16))).2] at hsum
 have hr:By (Hr k n) (s.drop (s.length-16)) w (Q4 w).length (s.take (s.length-16)) (Q4 (s.take (s.length-16))).length 8 8 (Q4 w) (Q4 (s.take (s.length-16))) (P0 w) (P0 (s.take (s.length-16)))=some (decide (s.drop (s.length-16)=Ln k n w (s.take (s.length-16)))):=by
  unfold By
  rw [hsum]
  show (Zs (Hr k n) (b60 w (s.take (s.length-16)))).bind _=_
  rw [h1,Option.bind_some,List.take_of_length_le (by omega),i31 (fun y hy=>hb y (List.mem_of_mem_drop hy)) h3 (by rw [List.length_drop];omega)]
  rfl
 rw [hd,hr,Option.bind_some]
 by_cases ht:s.drop (s.length-16)=Ln k n w (s.take (s.length-16))
 ·rw [decide_eq_true ht,if_pos ht,i0 (by rfl),if_pos (by omega),if_pos (by omega),g08 hk hn 1 (by omega)]
  rfl
 ·rw [decide_eq_false ht,if_neg ht];rfl
end Go.Eng
set_option linter.unusedVariables false
set_option linter.unusedSimpArgs false
namespace Go.Eng
open Go.Proofs
set_option maxRecDepth 100000
set_option maxHeartbeats 1000000
theorem b61:∀ (j n:Nat) (x:List Int),j=(16-x.length%16)%16->j<n->x.length+j<1000000->Y2 n x=some (.inr (x++List.replicate j 0))
 |_,0,_,_,h,_=>absurd h (Nat.not_lt_zero _)
 |0,n+1,x,h,_,hl=>by
  have:x.length%16=0:=by omega
  have e:Int.tmod (x.length:Int) 16=((x.length%16:Nat):Int):=rfl
  rw [Y2.eq_2,e,this,i0 (by rfl)]
  simp
 |j+1,n+1,x,h,h',hl=>by
  have h0:x.length%16≠0:=by omega
  have e:Int.tmod (x.length:Int) 16=((x.length%16:Nat):Int):=rfl
  rw [Y2.eq_2,e,j7 (by simp<;>omega),if_pos (by simp<;>omega),b61 j n (x++[0]) (by simp only [List.length_append,List.length_cons,List.length_nil];omega) (by omega) (by simp only [List.length_append,List.length_cons,List.length_nil];omega)]
  rw [List.append_assoc,List.replicate_succ];rfl
theorem i33 (b:List Int) (h:b.length<1000000):Q4 b=List.replicate ((16-b.length%16)%16) 0:=by
 unfold Q4
 have e:Int.tmod (b.length:Int) 16=((b.length%16:Nat):Int):=rfl
 rw [e,q6 (by omega) (by omega),show (16:Int)-((b.length%16:Nat):Int)=((16-b.length%16:Nat):Int) by omega]
 have e2:Int.tmod ((16-b.length%16:Nat):Int) 16=(((16-b.length%16)%16:Nat):Int):=rfl
 rw [e2,Int.toNat_natCast]
theorem g35 {b:List Int} (h:b.length<900000):Iu b=some (b++Q4 b):=by
 unfold Iu
 have:=b61 _ f9 b rfl (Nat.lt_trans (Nat.mod_lt _ (by decide)) (show 16<f9 by decide)) (by omega)
 rw [List.nil_append,if_pos (by simp<;>omega),this,i33 b (by omega)];rfl
def Rr (x:Int):Int:=Int.fdiv x (2^8)
def Ty (x:Int):Int:=IntKind.wrap .u64 (Int.tdiv x 256)
theorem Qu {x:Int} (h:0≤x) (h':x<18446744073709551616):Ty x=Rr x/\0≤Rr x/\Rr x<18446744073709551616/\IntKind.wrap .u8 (Int.tmod x 256)=IntKind.wrap .u8 x:=by
 have e1:Rr x=x/256:=by unfold Rr;rw [Int.fdiv_eq_ediv_of_nonneg x (by decide)];rfl
 unfold Ty
 rw [Int.tdiv_eq_ediv_of_nonneg h,Int.tmod_eq_emod_of_nonneg h,e1,b46,Hz,Hz]
 refine ⟨?_,?_,?_,?_⟩<;>omega
theorem i34 (x:Int):I6 x 8=some (.inl [IntKind.wrap .u8 x,IntKind.wrap .u8 (Rr x),IntKind.wrap .u8 (Rr (Rr x)),IntKind.wrap .u8 (Rr (Rr (Rr x))),IntKind.wrap .u8 (Rr (Rr (Rr (Rr x)))),IntKind.wrap .u8 (Rr (Rr (Rr (Rr (Rr x))))),IntKind.wrap .u8 (Rr (Rr (Rr (Rr (Rr (Rr x)))))),IntKind.wrap .u8 (Rr (Rr (Rr (Rr (Rr (Rr (Rr x))))))) ]):=by kernel_rfl
def tm8 (x:Int):Int:=IntKind.wrap .u8 (Int.tmod x 256)
theorem f51 (x:Int):Dk x 8=some [tm8 x,tm8 (Ty x),tm8 (Ty (Ty x)),tm8 (Ty (Ty (Ty x))),tm8 (Ty (Ty (Ty (Ty x)))),tm8 (Ty (Ty (Ty (Ty (Ty x))))),tm8 (Ty (Ty (Ty (Ty (Ty (Ty x)))))),tm8 (Ty (Ty (Ty (Ty (Ty (Ty (Ty x)))))))]:=by kernel_rfl
theorem c76 {b:List Int}:Dk (IntKind.wrap .u64 (b.length:Int)) 8=some (P0 b):=by
 unfold P0
 have h0:0≤IntKind.wrap .u64 (b.length:Int):=by rw [b46];omega
 have h0':IntKind.wrap .u64 (b.length:Int)<18446744073709551616:=by rw [b46];omega
 generalize IntKind.wrap .u64 (b.length:Int)=x at *
 obtain ⟨a1,b1,c1,d1⟩:=Qu h0 h0'
 obtain ⟨a2,b2,c2,d2⟩:=Qu b1 c1
 obtain ⟨a3,b3,c3,d3⟩:=Qu b2 c2
 obtain ⟨a4,b4,c4,d4⟩:=Qu b3 c3
 obtain ⟨a5,b5,c5,d5⟩:=Qu b4 c4
 obtain ⟨a6,b6,c6,d6⟩:=Qu b5 c5
 obtain ⟨a7,b7,c7,d7⟩:=Qu b6 c6
 obtain ⟨a8,b8,c8,d8⟩:=Qu b7 c7
 rw [f51,i34,a1,a2,a3,a4,a5,a6,a7]
 unfold tm8
 rw [d1,d2,d3,d4,d5,d6,d7,d8]
theorem l64 {α:Type} {l:List α} (h:l.length=64):∃ a b,l=a++b/\a.length=32/\b.length=32:=⟨l.take 32,l.drop 32,(List.take_append_drop 32 l).symm,by rw [List.length_take];omega,by rw [List.length_drop];omega⟩
theorem i35 {x:List Int} (h:x.length=64):Bk x f9 0 (List.replicate 32 0)=some (T9 (List.replicate 32 (0:Int)) 0 (List.take 32 (List.take (List.length x) x))):=by
 obtain ⟨a,b,rfl,ha,hb⟩:=l64 h
 obtain ⟨a0,a1,a2,a3,a4,a5,a6,a7,a8,a9,a10,a11,a12,a13,a14,a15,a16,a17,a18,a19,a20,a21,a22,a23,a24,a25,a26,a27,a28,a29,a30,a31,rfl⟩:=Jk ha
 obtain ⟨b0,b1,b2,b3,b4,b5,b6,b7,b8,b9,b10,b11,b12,b13,b14,b15,b16,b17,b18,b19,b20,b21,b22,b23,b24,b25,b26,b27,b28,b29,b30,b31,rfl⟩:=Jk hb
 kernel_rfl
theorem j11 {k n:List Int} (hk:k.length=32) (hn:n.length=12):Bk (G7 k 0 n) f9 0 (List.replicate 32 0)=some (Hr k n):=i35 (Eg 0 hk hn).2
end Go.Eng
namespace Go.Eng
set_option maxRecDepth 100000
set_option maxHeartbeats 1000000
theorem g93 {k n w p:List Int} (hk:k.length=32) (hn:n.length=12) (hw:w.length≤16384) (hp:p.length≤16384) (hb:Ci p) :
  Df k n w (I3 k n 1 p++Ln k n w (I3 k n 1 p))=some (.inl p):=by
 have hl:=Mt hk hn (c:=1) (b:=p) (by omega)
 obtain ⟨_,h2,h3⟩:=Xt hk hn hw (t:=I3 k n 1 p) (by omega)
 have hlen:(I3 k n 1 p++Ln k n w (I3 k n 1 p)).length=p.length+16:=by rw [List.length_append];omega
 have hbs:Ci (I3 k n 1 p++Ln k n w (I3 k n 1 p)):=fun y hy=>by
  rcases List.mem_append.1 hy with hy|hy
  ·exact Xq _ _ _ y hy
  ·exact h3 y hy
 rw [g34 hk hn hw (by omega) (by omega) hbs,hlen,show p.length+16-16=(I3 k n 1 p).length from by omega,List.drop_left,List.take_left,if_pos rfl]
 unfold I3
 rw [Yx hk hn _ _ _ (by omega) hb]
end Go.Eng
set_option linter.unusedVariables false
set_option linter.unusedSimpArgs false
namespace Go.Eng
set_option maxRecDepth 100000
set_option maxHeartbeats 1000000
theorem i36 {l:List Int} (h:Ci l):∃ m,l=zl m/\m.length=l.length/\Jq m:=by
 obtain ⟨m,h1,h2,h3⟩:=Xi (n:=256) (Ny h)
 exact ⟨m,h1,h2,h3⟩
theorem Ro {a b:List Int} (ha:Ci a) (hb:Ci b):Ci (a++b):=fun y hy=>by
 rcases List.mem_append.1 hy with hy|hy
 ·exact ha y hy
 ·exact hb y hy
theorem i37 {k n:List Int} (hk:k.length=32) (hn:n.length=12):Hr k n=(G7 k 0 n).take 32:=by
 have h:=(Eg 0 hk hn).2
 unfold Hr T9
 rw [List.take_length,List.take_zero,List.nil_append,Nat.zero_add,List.length_take,h,List.drop_replicate]
 exact List.append_nil _
theorem i38 {k n:List Int} (hk:k.length=32) (hn:n.length=12) (kb:Ci k) (nb:Ci n):Ci (Hr k n):=by
 rw [i37 hk hn]
 exact fun y hy=>g91 0 hk hn kb nb y (List.mem_of_mem_take hy)
theorem e75 (b:List Int):Ci (Q4 b):=fun y hy=>by
 unfold Q4 at hy;rw [List.eq_of_mem_replicate hy];omega
theorem c77 (b:List Int):Ci (P0 b):=fun y hy=>by
 have hw:∀ z:Int,0≤IntKind.wrap .u8 z/\IntKind.wrap .u8 z<256:=fun z=>by rw [Hz];omega
 unfold P0 at hy
 rw [i34] at hy
 simp only [List.mem_cons,List.not_mem_nil,or_false] at hy
 rcases hy with rfl|rfl|rfl|rfl|rfl|rfl|rfl|rfl<;>exact hw _
theorem j12 {w t:List Int} (hw:Ci w) (ht:Ci t):Ci (b60 w t):=Ro (Ro (Ro (Ro (Ro hw (e75 w)) ht) (e75 t)) (c77 w)) (c77 t)
theorem i39 {k n w t:List Int} (hk:k.length=32) (hn:n.length=12) (kb:Ci k) (nb:Ci n) (wb:Ci w) (tb:Ci t) (hw:w.length≤16384) (ht:t.length≤16384):Nh k n w t=some (Ln k n w t):=by
 have hm:=g33 (w:=w) (t:=t)
 obtain ⟨kn,e1,l1,d1⟩:=i36 (i38 hk hn kb nb)
 obtain ⟨mn,e2,l2,d2⟩:=i36 (j12 wb tb)
 have hk1:kn.length=32:=by rw [l1];exact e58 hk hn
 have hmac:Ln k n w t=zl (i19 kn mn):=by
  unfold Ln
  rw [e1,e2,j03 hk1 d1 d2 (by omega)];rfl
 have hsum:Ng (Hr k n) (b60 w t)=some (Ln k n w t):=by
  rw [hmac,e1,e2];exact i99 hk1 d1 d2 (by omega)
 have f1:=(Fm (b:=w)).2
 have f2:=(Fm (b:=t)).2
 have g1:=(Ah w).2
 have g2:=(Ah t).2
 have hcat:((w++Q4 w)++(t++Q4 t))++P0 w++P0 t=b60 w t:=by
  unfold b60;simp only [List.append_assoc]
 unfold Nh
 rw [c74 0 hk hn kb nb,Option.bind_some,j11 hk hn,Option.bind_some,g35 (by omega),Option.bind_some,g35 (by omega),Option.bind_some,if_pos (by simp only [List.length_append];omega),c76,Option.bind_some,if_pos (by simp only [List.length_append];omega),c76,Option.bind_some,if_pos (by simp only [List.length_append];omega),hcat,hsum]
 rfl
theorem c78 (k n:List Int) (c:Int) (b:List Int):Ci (I3 k n c b):=Xq _ _ _
theorem i40 {k n w p:List Int} (hk:k.length=32) (hn:n.length=12) (kb:Ci k) (nb:Ci n) (wb:Ci w) (pb:Ci p) (hw:w.length≤16384) (hp:p.length≤16384) :
  Fv k n w p=some (0,I3 k n 1 p++Ln k n w (I3 k n 1 p)):=by
 have hl:=Mt hk hn (c:=1) (b:=p) (by omega)
 obtain ⟨_,h2,h3⟩:=Xt hk hn hw (t:=I3 k n 1 p) (by omega)
 unfold Fv
 rw [i0 (by simp [hn]),i0 (by simp<;>omega),i0 (by simp<;>omega),i29 hk hn kb nb (by omega),Option.bind_some,i39 hk hn kb nb wb (c78 _ _ _ _) hw (by omega),Option.bind_some,List.take_of_length_le (by omega),if_pos (by rw [hl,h2];omega)]
end Go.Eng
