/-
  Part of a proof: SelPa.
-/
import Derived.Test.YtonkmgaofdhbaaaGreatDoorKemSa
import Derived.KernelRfl
import Derived.Test.YtonkmgaofdhbaaaGreatDoorSealPa
import Derived.Test.YtonkmgaofdhbaaaGreatDoorSelOa
set_option linter.unusedVariables false
set_option linter.unusedSimpArgs false
set_option linter.unusedVariables false
namespace Go.Eng
open Go.Proofs
def rot (x:Int) (k:Nat):Int:=bits .u32 .or (IntKind.u32.wrap (x*2^k)) (Int.fdiv x (2^(32-k)))
def xo (x y:Int):Int:=bits .u32 .xor x y
def ad (x y:Int):Int:=IntKind.u32.wrap (x+y)
def qr (a b c d:Int):Int×Int×Int×Int :=
 let a1:=ad a b
 let d1:=rot (xo d a1) 16
 let c1:=ad c d1
 let b1:=rot (xo b c1) 12
 let a2:=ad a1 b1
 let d2:=rot (xo d1 a2) 8
 let c2:=ad c1 d2
 let b2:=rot (xo b1 c2) 7
 (a2,b2,c2,d2)
end Go.Eng
set_option linter.unusedVariables false
namespace Go.Eng
open Go.Proofs
set_option maxRecDepth 100000
set_option maxHeartbeats 1000000
def qs0:List Int->List Int
 |[a0,a1,a2,a3,a4,a5,a6,a7,a8,a9,a10,a11,a12,a13,a14,a15]=>[(qr a0 a4 a8 a12).1,a1,a2,a3,(qr a0 a4 a8 a12).2.1,a5,a6,a7,(qr a0 a4 a8 a12).2.2.1,a9,a10,a11,(qr a0 a4 a8 a12).2.2.2,a13,a14,a15]
 |l=>l
theorem j55 (a0 a1 a2 a3 a4 a5 a6 a7 a8 a9 a10 a11 a12 a13 a14 a15:Int):o6 16 0 4 8 12 [a0,a1,a2,a3,a4,a5,a6,a7,a8,a9,a10,a11,a12,a13,a14,a15]=some (qs0 [a0,a1,a2,a3,a4,a5,a6,a7,a8,a9,a10,a11,a12,a13,a14,a15]):=by kernel_rfl
theorem j56 (a0 a1 a2 a3 a4 a5 a6 a7 a8 a9 a10 a11 a12 a13 a14 a15:Int):i9 0 4 8 12 [a0,a1,a2,a3,a4,a5,a6,a7,a8,a9,a10,a11,a12,a13,a14,a15]=some (qs0 [a0,a1,a2,a3,a4,a5,a6,a7,a8,a9,a10,a11,a12,a13,a14,a15]):=by kernel_rfl
def qs1:List Int->List Int
 |[a0,a1,a2,a3,a4,a5,a6,a7,a8,a9,a10,a11,a12,a13,a14,a15]=>[a0,(qr a1 a5 a9 a13).1,a2,a3,a4,(qr a1 a5 a9 a13).2.1,a6,a7,a8,(qr a1 a5 a9 a13).2.2.1,a10,a11,a12,(qr a1 a5 a9 a13).2.2.2,a14,a15]
 |l=>l
theorem j57 (a0 a1 a2 a3 a4 a5 a6 a7 a8 a9 a10 a11 a12 a13 a14 a15:Int):o6 16 1 5 9 13 [a0,a1,a2,a3,a4,a5,a6,a7,a8,a9,a10,a11,a12,a13,a14,a15]=some (qs1 [a0,a1,a2,a3,a4,a5,a6,a7,a8,a9,a10,a11,a12,a13,a14,a15]):=by kernel_rfl
theorem j58 (a0 a1 a2 a3 a4 a5 a6 a7 a8 a9 a10 a11 a12 a13 a14 a15:Int):i9 1 5 9 13 [a0,a1,a2,a3,a4,a5,a6,a7,a8,a9,a10,a11,a12,a13,a14,a15]=some (qs1 [a0,a1,a2,a3,a4,a5,a6,a7,a8,a9,a10,a11,a12,a13,a14,a15]):=by kernel_rfl
def qs2:List Int->List Int
 |[a0,a1,a2,a3,a4,a5,a6,a7,a8,a9,a10,a11,a12,a13,a14,a15]=>[a0,a1,(qr a2 a6 a10 a14).1,a3,a4,a5,(qr a2 a6 a10 a14).2.1,a7,a8,a9,(qr a2 a6 a10 a14).2.2.1,a11,a12,a13,(qr a2 a6 a10 a14).2.2.2,a15]
 |l=>l
theorem j59 (a0 a1 a2 a3 a4 a5 a6 a7 a8 a9 a10 a11 a12 a13 a14 a15:Int):o6 16 2 6 10 14 [a0,a1,a2,a3,a4,a5,a6,a7,a8,a9,a10,a11,a12,a13,a14,a15]=some (qs2 [a0,a1,a2,a3,a4,a5,a6,a7,a8,a9,a10,a11,a12,a13,a14,a15]):=by kernel_rfl
theorem j60 (a0 a1 a2 a3 a4 a5 a6 a7 a8 a9 a10 a11 a12 a13 a14 a15:Int):i9 2 6 10 14 [a0,a1,a2,a3,a4,a5,a6,a7,a8,a9,a10,a11,a12,a13,a14,a15]=some (qs2 [a0,a1,a2,a3,a4,a5,a6,a7,a8,a9,a10,a11,a12,a13,a14,a15]):=by kernel_rfl
def qs3:List Int->List Int
 |[a0,a1,a2,a3,a4,a5,a6,a7,a8,a9,a10,a11,a12,a13,a14,a15]=>[a0,a1,a2,(qr a3 a7 a11 a15).1,a4,a5,a6,(qr a3 a7 a11 a15).2.1,a8,a9,a10,(qr a3 a7 a11 a15).2.2.1,a12,a13,a14,(qr a3 a7 a11 a15).2.2.2]
 |l=>l
theorem j61 (a0 a1 a2 a3 a4 a5 a6 a7 a8 a9 a10 a11 a12 a13 a14 a15:Int):o6 16 3 7 11 15 [a0,a1,a2,a3,a4,a5,a6,a7,a8,a9,a10,a11,a12,a13,a14,a15]=some (qs3 [a0,a1,a2,a3,a4,a5,a6,a7,a8,a9,a10,a11,a12,a13,a14,a15]):=by kernel_rfl
theorem j62 (a0 a1 a2 a3 a4 a5 a6 a7 a8 a9 a10 a11 a12 a13 a14 a15:Int):i9 3 7 11 15 [a0,a1,a2,a3,a4,a5,a6,a7,a8,a9,a10,a11,a12,a13,a14,a15]=some (qs3 [a0,a1,a2,a3,a4,a5,a6,a7,a8,a9,a10,a11,a12,a13,a14,a15]):=by kernel_rfl
def qs4:List Int->List Int
 |[a0,a1,a2,a3,a4,a5,a6,a7,a8,a9,a10,a11,a12,a13,a14,a15]=>[(qr a0 a5 a10 a15).1,a1,a2,a3,a4,(qr a0 a5 a10 a15).2.1,a6,a7,a8,a9,(qr a0 a5 a10 a15).2.2.1,a11,a12,a13,a14,(qr a0 a5 a10 a15).2.2.2]
 |l=>l
theorem j63 (a0 a1 a2 a3 a4 a5 a6 a7 a8 a9 a10 a11 a12 a13 a14 a15:Int):o6 16 0 5 10 15 [a0,a1,a2,a3,a4,a5,a6,a7,a8,a9,a10,a11,a12,a13,a14,a15]=some (qs4 [a0,a1,a2,a3,a4,a5,a6,a7,a8,a9,a10,a11,a12,a13,a14,a15]):=by kernel_rfl
theorem j64 (a0 a1 a2 a3 a4 a5 a6 a7 a8 a9 a10 a11 a12 a13 a14 a15:Int):i9 0 5 10 15 [a0,a1,a2,a3,a4,a5,a6,a7,a8,a9,a10,a11,a12,a13,a14,a15]=some (qs4 [a0,a1,a2,a3,a4,a5,a6,a7,a8,a9,a10,a11,a12,a13,a14,a15]):=by kernel_rfl
def qs5:List Int->List Int
 |[a0,a1,a2,a3,a4,a5,a6,a7,a8,a9,a10,a11,a12,a13,a14,a15]=>[a0,(qr a1 a6 a11 a12).1,a2,a3,a4,a5,(qr a1 a6 a11 a12).2.1,a7,a8,a9,a10,(qr a1 a6 a11 a12).2.2.1,(qr a1 a6 a11 a12).2.2.2,a13,a14,a15]
 |l=>l
theorem j65 (a0 a1 a2 a3 a4 a5 a6 a7 a8 a9 a10 a11 a12 a13 a14 a15:Int):o6 16 1 6 11 12 [a0,a1,a2,a3,a4,a5,a6,a7,a8,a9,a10,a11,a12,a13,a14,a15]=some (qs5 [a0,a1,a2,a3,a4,a5,a6,a7,a8,a9,a10,a11,a12,a13,a14,a15]):=by kernel_rfl
theorem j66 (a0 a1 a2 a3 a4 a5 a6 a7 a8 a9 a10 a11 a12 a13 a14 a15:Int):i9 1 6 11 12 [a0,a1,a2,a3,a4,a5,a6,a7,a8,a9,a10,a11,a12,a13,a14,a15]=some (qs5 [a0,a1,a2,a3,a4,a5,a6,a7,a8,a9,a10,a11,a12,a13,a14,a15]):=by kernel_rfl
def qs6:List Int->List Int
 |[a0,a1,a2,a3,a4,a5,a6,a7,a8,a9,a10,a11,a12,a13,a14,a15]=>[a0,a1,(qr a2 a7 a8 a13).1,a3,a4,a5,a6,(qr a2 a7 a8 a13).2.1,(qr a2 a7 a8 a13).2.2.1,a9,a10,a11,a12,(qr a2 a7 a8 a13).2.2.2,a14,a15]
 |l=>l
theorem j67 (a0 a1 a2 a3 a4 a5 a6 a7 a8 a9 a10 a11 a12 a13 a14 a15:Int):o6 16 2 7 8 13 [a0,a1,a2,a3,a4,a5,a6,a7,a8,a9,a10,a11,a12,a13,a14,a15]=some (qs6 [a0,a1,a2,a3,a4,a5,a6,a7,a8,a9,a10,a11,a12,a13,a14,a15]):=by kernel_rfl
theorem j68 (a0 a1 a2 a3 a4 a5 a6 a7 a8 a9 a10 a11 a12 a13 a14 a15:Int):i9 2 7 8 13 [a0,a1,a2,a3,a4,a5,a6,a7,a8,a9,a10,a11,a12,a13,a14,a15]=some (qs6 [a0,a1,a2,a3,a4,a5,a6,a7,a8,a9,a10,a11,a12,a13,a14,a15]):=by kernel_rfl
def qs7:List Int->List Int
 |[a0,a1,a2,a3,a4,a5,a6,a7,a8,a9,a10,a11,a12,a13,a14,a15]=>[a0,a1,a2,(qr a3 a4 a9 a14).1,(qr a3 a4 a9 a14).2.1,a5,a6,a7,a8,(qr a3 a4 a9 a14).2.2.1,a10,a11,a12,a13,(qr a3 a4 a9 a14).2.2.2,a15]
 |l=>l
theorem j69 (a0 a1 a2 a3 a4 a5 a6 a7 a8 a9 a10 a11 a12 a13 a14 a15:Int):o6 16 3 4 9 14 [a0,a1,a2,a3,a4,a5,a6,a7,a8,a9,a10,a11,a12,a13,a14,a15]=some (qs7 [a0,a1,a2,a3,a4,a5,a6,a7,a8,a9,a10,a11,a12,a13,a14,a15]):=by kernel_rfl
theorem j70 (a0 a1 a2 a3 a4 a5 a6 a7 a8 a9 a10 a11 a12 a13 a14 a15:Int):i9 3 4 9 14 [a0,a1,a2,a3,a4,a5,a6,a7,a8,a9,a10,a11,a12,a13,a14,a15]=some (qs7 [a0,a1,a2,a3,a4,a5,a6,a7,a8,a9,a10,a11,a12,a13,a14,a15]):=by kernel_rfl
end Go.Eng
set_option linter.unusedVariables false
set_option linter.unusedSimpArgs false
namespace Go.Eng
open Go.Proofs
set_option maxRecDepth 100000
set_option maxHeartbeats 1000000
theorem l16 {α:Type} {l:List α} (h:l.length=16):∃ a0 a1 a2 a3 a4 a5 a6 a7 a8 a9 a10 a11 a12 a13 a14 a15,l=[a0,a1,a2,a3,a4,a5,a6,a7,a8,a9,a10,a11,a12,a13,a14,a15]:=by
 match l,h with
 |[a0,a1,a2,a3,a4,a5,a6,a7,a8,a9,a10,a11,a12,a13,a14,a15],_=>exact ⟨_,_,_,_,_,_,_,_,_,_,_,_,_,_,_,_,rfl⟩
theorem rq0 {l:List Int} (h:l.length=16):o6 16 0 4 8 12 l=some (qs0 l)/\i9 0 4 8 12 l=some (qs0 l)/\(qs0 l).length=16:=by
 obtain ⟨a0,a1,a2,a3,a4,a5,a6,a7,a8,a9,a10,a11,a12,a13,a14,a15,rfl⟩:=l16 h
 exact ⟨j55 ..,j56 ..,rfl⟩
theorem rq1 {l:List Int} (h:l.length=16):o6 16 1 5 9 13 l=some (qs1 l)/\i9 1 5 9 13 l=some (qs1 l)/\(qs1 l).length=16:=by
 obtain ⟨a0,a1,a2,a3,a4,a5,a6,a7,a8,a9,a10,a11,a12,a13,a14,a15,rfl⟩:=l16 h
 exact ⟨j57 ..,j58 ..,rfl⟩
theorem rq2 {l:List Int} (h:l.length=16):o6 16 2 6 10 14 l=some (qs2 l)/\i9 2 6 10 14 l=some (qs2 l)/\(qs2 l).length=16:=by
 obtain ⟨a0,a1,a2,a3,a4,a5,a6,a7,a8,a9,a10,a11,a12,a13,a14,a15,rfl⟩:=l16 h
 exact ⟨j59 ..,j60 ..,rfl⟩
theorem rq3 {l:List Int} (h:l.length=16):o6 16 3 7 11 15 l=some (qs3 l)/\i9 3 7 11 15 l=some (qs3 l)/\(qs3 l).length=16:=by
 obtain ⟨a0,a1,a2,a3,a4,a5,a6,a7,a8,a9,a10,a11,a12,a13,a14,a15,rfl⟩:=l16 h
 exact ⟨j61 ..,j62 ..,rfl⟩
theorem rq4 {l:List Int} (h:l.length=16):o6 16 0 5 10 15 l=some (qs4 l)/\i9 0 5 10 15 l=some (qs4 l)/\(qs4 l).length=16:=by
 obtain ⟨a0,a1,a2,a3,a4,a5,a6,a7,a8,a9,a10,a11,a12,a13,a14,a15,rfl⟩:=l16 h
 exact ⟨j63 ..,j64 ..,rfl⟩
theorem rq5 {l:List Int} (h:l.length=16):o6 16 1 6 11 12 l=some (qs5 l)/\i9 1 6 11 12 l=some (qs5 l)/\(qs5 l).length=16:=by
 obtain ⟨a0,a1,a2,a3,a4,a5,a6,a7,a8,a9,a10,a11,a12,a13,a14,a15,rfl⟩:=l16 h
 exact ⟨j65 ..,j66 ..,rfl⟩
theorem rq6 {l:List Int} (h:l.length=16):o6 16 2 7 8 13 l=some (qs6 l)/\i9 2 7 8 13 l=some (qs6 l)/\(qs6 l).length=16:=by
 obtain ⟨a0,a1,a2,a3,a4,a5,a6,a7,a8,a9,a10,a11,a12,a13,a14,a15,rfl⟩:=l16 h
 exact ⟨j67 ..,j68 ..,rfl⟩
theorem rq7 {l:List Int} (h:l.length=16):o6 16 3 4 9 14 l=some (qs7 l)/\i9 3 4 9 14 l=some (qs7 l)/\(qs7 l).length=16:=by
 obtain ⟨a0,a1,a2,a3,a4,a5,a6,a7,a8,a9,a10,a11,a12,a13,a14,a15,rfl⟩:=l16 h
 exact ⟨j69 ..,j70 ..,rfl⟩
def j71 (l:List Int):List Int:=qs7 (qs6 (qs5 (qs4 (qs3 (qs2 (qs1 (qs0 l)))))))
theorem Zu {l:List Int} (h:l.length=16):(j71 l).length=16:=(rq7 (rq6 (rq5 (rq4 (rq3 (rq2 (rq1 (rq0 h).2.2).2.2).2.2).2.2).2.2).2.2).2.2).2.2
theorem j72 (l:List Int):E8 f9 0 l=(i9 0 4 8 12 l).bind fun l=>(i9 1 5 9 13 l).bind fun l=>(i9 2 6 10 14 l).bind fun l=>(i9 3 7 11 15 l).bind fun l=>some l:=by kernel_rfl
theorem j73 (l:List Int):E9 f9 0 l=(i9 0 5 10 15 l).bind fun l=>(i9 1 6 11 12 l).bind fun l=>(i9 2 7 8 13 l).bind fun l=>(i9 3 4 9 14 l).bind fun l=>some l:=by kernel_rfl
theorem c57 {l:List Int} (h:l.length=16):D7 l=some (j71 l):=by
 have h1:=(rq0 h).2.2
 have h2:=(rq1 h1).2.2
 have h3:=(rq2 h2).2.2
 have h4:=(rq3 h3).2.2
 have h5:=(rq4 h4).2.2
 have h6:=(rq5 h5).2.2
 have h7:=(rq6 h6).2.2
 unfold D7
 rw [j72,(rq0 h).2.1,Option.bind_some,(rq1 h1).2.1,Option.bind_some,(rq2 h2).2.1,Option.bind_some,(rq3 h3).2.1,Option.bind_some,Option.bind_some,j73,(rq4 h4).2.1,Option.bind_some,(rq5 h5).2.1,Option.bind_some,(rq6 h6).2.1,Option.bind_some,(rq7 h7).2.1,Option.bind_some,Option.bind_some]
 rfl
end Go.Eng
set_option linter.unusedVariables false
set_option linter.unusedSimpArgs false
namespace Go.Eng
open Go.Proofs
set_option maxRecDepth 100000
set_option maxHeartbeats 1000000
def i09:Nat->List Int->List Int
 |0,l=>l
 |n+1,l=>i09 n (j71 l)
theorem e57:∀ (n:Nat) {l:List Int},l.length=16->(i09 n l).length=16
 |0,_,h=>h
 |n+1,_,h=>e57 n (Zu h)
def by4 (x:Int):List Int:=[(IntKind.wrap .u8 x),(IntKind.wrap .u8 (Int.fdiv x (2^8))),(IntKind.wrap .u8 (Int.fdiv x (2^16))),(IntKind.wrap .u8 (Int.fdiv x (2^24)))]
def g71:List Int->List Int->List Int
 |x::xs,s::ss=>by4 (IntKind.wrap .u32 (x+s))++g71 xs ss
 |_,_=>[]
def orW (b0 b1 b2 b3:Int):Int:=bits .u32 .or (bits .u32 .or (bits .u32 .or (IntKind.wrap .u32 b0) (IntKind.wrap .u32 ((IntKind.wrap .u32 b1)*2^8))) (IntKind.wrap .u32 ((IntKind.wrap .u32 b2)*2^16))) (IntKind.wrap .u32 ((IntKind.wrap .u32 b3)*2^24))
def Ol (b0 b1 b2 b3:Int):Int:=IntKind.wrap .u32 ((IntKind.wrap .u32 ((IntKind.wrap .u32 ((IntKind.wrap .u32 b0)+(IntKind.wrap .u32 (256*(IntKind.wrap .u32 b1)))))+(IntKind.wrap .u32 (65536*(IntKind.wrap .u32 b2)))))+(IntKind.wrap .u32 (16777216*(IntKind.wrap .u32 b3))))
theorem Qg (n:Int):IntKind.u32.wrap n=n%4294967296:=by simp [IntKind.wrap,IntKind.bits,IntKind.signed]
theorem g72 {n m:Nat} (hn:n<4294967296) (hm:m<4294967296):bits .u32 .or (n:Int) (m:Int)=((n|||m:Nat):Int):=by
 show IntKind.u32.wrap (((BitVec.ofInt 32 n|||BitVec.ofInt 32 m:BitVec 32).toNat:Nat):Int)=_
 rw [BitVec.ofInt_natCast,BitVec.ofInt_natCast,BitVec.toNat_or,BitVec.toNat_ofNat,BitVec.toNat_ofNat,Qg]
 simp only [Nat.reducePow]
 rw [Nat.mod_eq_of_lt hn,Nat.mod_eq_of_lt hm,Int.emod_eq_of_lt (by omega)]
 have:=Nat.or_lt_two_pow (n:=32) hn hm
 omega
theorem i89 {a r b:Nat} (h:a<2^r):a|||(b*2^r)=a+2^r*b:=by
 rw [Nat.mul_comm b,Nat.or_comm,←Nat.two_pow_add_eq_or_of_lt h,Nat.add_comm]
theorem b42 {a b:Nat} (r:Nat) (h:a<2^r) (hb:b*2^r<4294967296) (ha:a<4294967296):bits .u32 .or (a:Int) (((b*2^r:Nat)):Int)=((a+2^r*b:Nat):Int):=by
 rw [g72 ha hb,i89 h]
theorem i10 {b0 b1 b2 b3:Int} (h0:0≤b0/\b0<256) (h1:0≤b1/\b1<256) (h2:0≤b2/\b2<256) (h3:0≤b3/\b3<256):orW b0 b1 b2 b3=Ol b0 b1 b2 b3:=by
 obtain ⟨x0,rfl⟩:=Int.eq_ofNat_of_zero_le h0.1
 obtain ⟨x1,rfl⟩:=Int.eq_ofNat_of_zero_le h1.1
 obtain ⟨x2,rfl⟩:=Int.eq_ofNat_of_zero_le h2.1
 obtain ⟨x3,rfl⟩:=Int.eq_ofNat_of_zero_le h3.1
 have e1:((x1:Int)%4294967296*2^8)%4294967296=((x1*2^8:Nat):Int):=by omega
 have e2:((x2:Int)%4294967296*2^16)%4294967296=((x2*2^16:Nat):Int):=by omega
 have e3:((x3:Int)%4294967296*2^24)%4294967296=((x3*2^24:Nat):Int):=by omega
 have e0:((x0:Int)%4294967296)=((x0:Nat):Int):=by omega
 unfold orW Ol
 simp only [Qg,e1,e2,e3,e0]
 rw [b42 8 (by omega) (by omega) (by omega),b42 16 (by omega) (by omega) (by omega),b42 24 (by omega) (by omega) (by omega)]
 omega
theorem i11 (c k0 k1 k2 k3 k4 k5 k6 k7 k8 k9 k10 k11 k12 k13 k14 k15 k16 k17 k18 k19 k20 k21 k22 k23 k24 k25 k26 k27 k28 k29 k30 k31 n0 n1 n2 n3 n4 n5 n6 n7 n8 n9 n10 n11:Int) :
  Ee [k0,k1,k2,k3,k4,k5,k6,k7,k8,k9,k10,k11,k12,k13,k14,k15,k16,k17,k18,k19,k20,k21,k22,k23,k24,k25,k26,k27,k28,k29,k30,k31] c [n0,n1,n2,n3,n4,n5,n6,n7,n8,n9,n10,n11]
  = some [1634760805,857760878,2036477234,1797285236,orW k0 k1 k2 k3,orW k4 k5 k6 k7,orW k8 k9 k10 k11,orW k12 k13 k14 k15,orW k16 k17 k18 k19,orW k20 k21 k22 k23,orW k24 k25 k26 k27,orW k28 k29 k30 k31,c,orW n0 n1 n2 n3,orW n4 n5 n6 n7,orW n8 n9 n10 n11]:=by kernel_rfl
theorem i12 (k0 k1 k2 k3 k4 k5 k6 k7 k8 k9 k10 k11 k12 k13 k14 k15 k16 k17 k18 k19 k20 k21 k22 k23 k24 k25 k26 k27 k28 k29 k30 k31:Int) :
  By [k0,k1,k2,k3,k4,k5,k6,k7,k8,k9,k10,k11,k12,k13,k14,k15,k16,k17,k18,k19,k20,k21,k22,k23,k24,k25,k26,k27,k28,k29,k30,k31] f9 0 [1634760805,857760878,2036477234,1797285236]
  = some [1634760805,857760878,2036477234,1797285236,Ol k0 k1 k2 k3,Ol k4 k5 k6 k7,Ol k8 k9 k10 k11,Ol k12 k13 k14 k15,Ol k16 k17 k18 k19,Ol k20 k21 k22 k23,Ol k24 k25 k26 k27,Ol k28 k29 k30 k31]:=by kernel_rfl
theorem j74 (n0 n1 n2 n3 n4 n5 n6 n7 n8 n9 n10 n11:Int):Bg [n0,n1,n2,n3,n4,n5,n6,n7,n8,n9,n10,n11] 0=some (Ol n0 n1 n2 n3):=by kernel_rfl
theorem j75 (n0 n1 n2 n3 n4 n5 n6 n7 n8 n9 n10 n11:Int):Bg [n0,n1,n2,n3,n4,n5,n6,n7,n8,n9,n10,n11] 1=some (Ol n4 n5 n6 n7):=by kernel_rfl
theorem j76 (n0 n1 n2 n3 n4 n5 n6 n7 n8 n9 n10 n11:Int):Bg [n0,n1,n2,n3,n4,n5,n6,n7,n8,n9,n10,n11] 2=some (Ol n8 n9 n10 n11):=by kernel_rfl
theorem i90 {s x:List Int} (hs:s.length=16) (hx:x.length=16):Y8 s x f9 0 []=some (g71 x s):=by
 obtain ⟨a0,a1,a2,a3,a4,a5,a6,a7,a8,a9,a10,a11,a12,a13,a14,a15,rfl⟩:=l16 hs
 obtain ⟨b0,b1,b2,b3,b4,b5,b6,b7,b8,b9,b10,b11,b12,b13,b14,b15,rfl⟩:=l16 hx
 kernel_rfl
theorem i91 {s x:List Int} {c n1 n2 n3:Int} (hs:s.length=12) (hx:x.length=16):Bz c s n1 n2 n3 x f9 0 []=some (g71 x (s++[c,n1,n2,n3])):=by
 obtain ⟨a0,a1,a2,a3,a4,a5,a6,a7,a8,a9,a10,a11,rfl⟩:=f06 hs
 obtain ⟨b0,b1,b2,b3,b4,b5,b6,b7,b8,b9,b10,b11,b12,b13,b14,b15,rfl⟩:=l16 hx
 kernel_rfl
theorem b43 (s:List Int) (hs:s.length=16):∀ (m n i:Nat) (x:List Int),i+m=10->m<n->x.length=16->L7 s n (i:Int) x=some (.inl (g71 (i09 m x) s))
 |_,0,_,_,_,h,_=>absurd h (Nat.not_lt_zero _)
 |0,n+1,i,x,h1,h2,hx=>by
  rw [L7.eq_2,i0 (by simp<;>omega)]
  rw [i90 hs hx];rfl
 |m+1,n+1,i,x,h1,h2,hx=>by
  rw [L7.eq_2,j7 (by simp<;>omega),c57 hx,Option.bind_some,o8 (by omega) (by omega)]
  exact b43 s hs m n (i+1) _ (by omega) (by omega) (Zu hx)
theorem b44 {c:Int} {s:List Int} {a b d:Int} (hs:s.length=12):∀ (m n i:Nat) (x:List Int),i+m=10->m<n->x.length=16->T1 c s a b d n (i:Int) x=some (i09 m x)
 |_,0,_,_,_,h,_=>absurd h (Nat.not_lt_zero _)
 |0,n+1,i,x,h1,h2,hx=>by
  rw [T1.eq_2,i0 (by simp<;>omega)];rfl
 |m+1,n+1,i,x,h1,h2,hx=>by
  have hl:List.length (([]:List Int)++(s++[c,a,b,d]))=16:=by simp [hs]
  have h1':=(rq0 hx).2.2
  have h2':=(rq1 h1').2.2
  have h3:=(rq2 h2').2.2
  have h4:=(rq3 h3).2.2
  have h5:=(rq4 h4).2.2
  have h6:=(rq5 h5).2.2
  have h7:=(rq6 h6).2.2
  rw [T1.eq_2,j7 (by simp<;>omega),hl,(rq0 hx).1,Option.bind_some,(rq1 h1').1,Option.bind_some,(rq2 h2').1,Option.bind_some,(rq3 h3).1,Option.bind_some,(rq4 h4).1,Option.bind_some,(rq5 h5).1,Option.bind_some,(rq6 h6).1,Option.bind_some,(rq7 h7).1,Option.bind_some,o8 (by omega) (by omega)]
  exact b44 hs m n (i+1) _ (by omega) (by omega) (Zu hx)
end Go.Eng
set_option linter.unusedVariables false
set_option linter.unusedSimpArgs false
namespace Go.Eng
open Go.Proofs
set_option maxRecDepth 100000
set_option maxHeartbeats 1000000
theorem e58:∀ x s:List Int,Av (g71 x s)
 |[],_=>fun y hy=>by cases hy
 |_::_,[]=>fun y hy=>by cases hy
 |x::xs,s::ss=>fun y hy=>by
  have hw:∀ z:Int,0≤IntKind.wrap .u8 z/\IntKind.wrap .u8 z<256:=fun z=>by rw [Hj];omega
  rcases List.mem_append.1 hy with hy|hy
  ·simp only [by4,List.mem_cons,List.not_mem_nil,or_false] at hy
   rcases hy with rfl|rfl|rfl|rfl<;>exact hw _
  ·exact e58 xs ss y hy
theorem b45 {k n:List Int} (c:Int) (hk:k.length=32) (hn:n.length=12) (kb:Av k) (nb:Av n):∃ b,G7 k c n=some (.inl b)/\Cs k c n=some b/\Av b:=by
 obtain ⟨k0,k1,k2,k3,k4,k5,k6,k7,k8,k9,k10,k11,k12,k13,k14,k15,k16,k17,k18,k19,k20,k21,k22,k23,k24,k25,k26,k27,k28,k29,k30,k31,rfl⟩:=Ix hk
 obtain ⟨n0,n1,n2,n3,n4,n5,n6,n7,n8,n9,n10,n11,rfl⟩:=f06 hn
 have q:∀ a b d e,a∈[k0,k1,k2,k3,k4,k5,k6,k7,k8,k9,k10,k11,k12,k13,k14,k15,k16,k17,k18,k19,k20,k21,k22,k23,k24,k25,k26,k27,k28,k29,k30,k31]->b∈[k0,k1,k2,k3,k4,k5,k6,k7,k8,k9,k10,k11,k12,k13,k14,k15,k16,k17,k18,k19,k20,k21,k22,k23,k24,k25,k26,k27,k28,k29,k30,k31]->d∈[k0,k1,k2,k3,k4,k5,k6,k7,k8,k9,k10,k11,k12,k13,k14,k15,k16,k17,k18,k19,k20,k21,k22,k23,k24,k25,k26,k27,k28,k29,k30,k31]->e∈[k0,k1,k2,k3,k4,k5,k6,k7,k8,k9,k10,k11,k12,k13,k14,k15,k16,k17,k18,k19,k20,k21,k22,k23,k24,k25,k26,k27,k28,k29,k30,k31]->orW a b d e=Ol a b d e :=
  fun a b d e h1 h2 h3 h4=>i10 (kb _ h1) (kb _ h2) (kb _ h3) (kb _ h4)
 have r:∀ a b d e,a∈[n0,n1,n2,n3,n4,n5,n6,n7,n8,n9,n10,n11]->b∈[n0,n1,n2,n3,n4,n5,n6,n7,n8,n9,n10,n11]->d∈[n0,n1,n2,n3,n4,n5,n6,n7,n8,n9,n10,n11]->e∈[n0,n1,n2,n3,n4,n5,n6,n7,n8,n9,n10,n11]->orW a b d e=Ol a b d e :=
  fun a b d e h1 h2 h3 h4=>i10 (nb _ h1) (nb _ h2) (nb _ h3) (nb _ h4)
 have hb:=i11 c k0 k1 k2 k3 k4 k5 k6 k7 k8 k9 k10 k11 k12 k13 k14 k15 k16 k17 k18 k19 k20 k21 k22 k23 k24 k25 k26 k27 k28 k29 k30 k31 n0 n1 n2 n3 n4 n5 n6 n7 n8 n9 n10 n11
 rw [q k0 k1 k2 k3 (by simp) (by simp) (by simp) (by simp),q k4 k5 k6 k7 (by simp) (by simp) (by simp) (by simp),q k8 k9 k10 k11 (by simp) (by simp) (by simp) (by simp),q k12 k13 k14 k15 (by simp) (by simp) (by simp) (by simp),q k16 k17 k18 k19 (by simp) (by simp) (by simp) (by simp),q k20 k21 k22 k23 (by simp) (by simp) (by simp) (by simp),q k24 k25 k26 k27 (by simp) (by simp) (by simp) (by simp),q k28 k29 k30 k31 (by simp) (by simp) (by simp) (by simp),r n0 n1 n2 n3 (by simp) (by simp) (by simp) (by simp),r n4 n5 n6 n7 (by simp) (by simp) (by simp) (by simp),r n8 n9 n10 n11 (by simp) (by simp) (by simp) (by simp)] at hb
 have hw:=i12 k0 k1 k2 k3 k4 k5 k6 k7 k8 k9 k10 k11 k12 k13 k14 k15 k16 k17 k18 k19 k20 k21 k22 k23 k24 k25 k26 k27 k28 k29 k30 k31
 generalize hs:([1634760805,857760878,2036477234,1797285236,Ol k0 k1 k2 k3,Ol k4 k5 k6 k7,Ol k8 k9 k10 k11,Ol k12 k13 k14 k15,Ol k16 k17 k18 k19,Ol k20 k21 k22 k23,Ol k24 k25 k26 k27,Ol k28 k29 k30 k31]:List Int)=s at hw
 have hsl:s.length=12:=by rw [←hs];rfl
 have hb':Ee [k0,k1,k2,k3,k4,k5,k6,k7,k8,k9,k10,k11,k12,k13,k14,k15,k16,k17,k18,k19,k20,k21,k22,k23,k24,k25,k26,k27,k28,k29,k30,k31] c [n0,n1,n2,n3,n4,n5,n6,n7,n8,n9,n10,n11]=some (s++[c,Ol n0 n1 n2 n3,Ol n4 n5 n6 n7,Ol n8 n9 n10 n11]):=by rw [hb,←hs];rfl
 have hl:(s++[c,Ol n0 n1 n2 n3,Ol n4 n5 n6 n7,Ol n8 n9 n10 n11]).length=16:=by simp [hsl]
 refine ⟨g71 (i09 10 (s++[c,Ol n0 n1 n2 n3,Ol n4 n5 n6 n7,Ol n8 n9 n10 n11])) (s++[c,Ol n0 n1 n2 n3,Ol n4 n5 n6 n7,Ol n8 n9 n10 n11]),?_,?_,e58 _ _⟩
 ·unfold G7
  rw [i0 (by rfl),hb',Option.bind_some,c57 hl,Option.bind_some]
  exact b43 _ hl 9 f9 1 _ (by omega) (by decide) (Zu hl)
 ·unfold Cs
  rw [hw,Option.bind_some,j74,Option.bind_some,j75,Option.bind_some,j76,Option.bind_some,if_pos (by simp [hsl]),if_pos (by simp [hsl]),List.nil_append]
  have h10:=b44 (c:=c) (a:=Ol n0 n1 n2 n3) (b:=Ol n4 n5 n6 n7) (d:=Ol n8 n9 n10 n11) hsl 10 f9 0 _ (by omega) (by decide) hl
  rw [show ((0:Nat):Int)=0 from rfl] at h10
  rw [h10,Option.bind_some,i91 hsl (e57 10 hl),Option.bind_some]
theorem c58 {k n:List Int} (c:Int) (hk:k.length=32) (hn:n.length=12) (kb:Av k) (nb:Av n):Cs k c n=some (G5 k c n):=by
 obtain ⟨b,h1,h2,_⟩:=b45 c hk hn kb nb
 rw [h2];unfold G5;rw [h1]
theorem g73 {k n:List Int} (c:Int) (hk:k.length=32) (hn:n.length=12) (kb:Av k) (nb:Av n):Av (G5 k c n):=by
 obtain ⟨b,h1,h2,h3⟩:=b45 c hk hn kb nb
 unfold G5;rw [h1];exact h3
theorem c59 {k n:List Int} (hk:k.length=32) (hn:n.length=12):∀ (m:Nat) (c j:Nat) (b:List Int) (i:Nat),c=1+j->j+m<4000000->b.length≤64*m->i<b.length ->
  (Gz k n m (c:Int) b).getD i 0=xr (b.getD i 0) ((G5 k ((c+i/64:Nat):Int) n).getD (i%64) 0)
 |0,c,j,b,i,_,_,h,h'=>by omega
 |m+1,c,j,b,i,hc,hj,h,h'=>by
  have hbl:=(Dv (c:Int) hk hn).2
  show (Dh (b.take 64) (G5 k c n)++Gz k n m (IntKind.wrap .u32 ((c:Int)+1)) (b.drop 64)).getD i 0=_
  have hxl:(Dh (b.take 64) (G5 k c n)).length=min 64 b.length:=by rw [Vc (by rw [hbl,List.length_take];omega),List.length_take]
  by_cases hi:i<64
  ·rw [show i/64=0 by omega,show i%64=i by omega,Nat.add_zero]
   simp only [List.getD]
   rw [List.getElem?_append_left (by omega)]
   unfold Dh
   rw [List.getElem?_zipWith,List.getElem?_take_of_lt hi,List.getElem?_eq_getElem h',List.getElem?_eq_getElem (by omega)]
   rfl
  ·have e:IntKind.wrap .u32 ((c:Int)+1)=((c+1:Nat):Int):=by rw [Qg,Int.emod_eq_of_lt (by omega) (by omega)];rfl
   have ih:=c59 hk hn m (c+1) (j+1) (b.drop 64) (i-64) (by omega) (by omega) (by rw [List.length_drop];omega) (by rw [List.length_drop];omega)
   rw [e]
   rw [show c+1+(i-64)/64=c+i/64 by omega,show (i-64)%64=i%64 by omega] at ih
   simp only [List.getD] at ih ⊢
   rw [List.getElem?_append_right (by omega),show (Dh (b.take 64) (G5 k c n)).length=64 by omega,ih,List.getElem?_drop,show 64+(i-64)=i by omega]
theorem Qh {k nn b:List Int} (hk:k.length=32) (hn:nn.length=12) (kb:Av k) (nb:Av nn) (hb:b.length≤65536):∀ (n i:Nat) (o by_:List Int),i≤b.length->b.length<i+n->o=(J3 k nn 1 b).take i->(i%64≠0->by_=G5 k ((1+i/64:Nat):Int) nn) ->
  ∃ z,Y3 k 1 nn b n (i:Int) o by_=some (.inr (.inr (J3 k nn 1 b,z)))
 |0,i,o,by_,h,h',_,_=>by omega
 |n+1,i,o,by_,h,h',ho,hy=>by
  have hTl:(J3 k nn 1 b).length=b.length:=Ww hk hn _ _ _ (by omega)
  rw [Y3.eq_2]
  by_cases hi:i<b.length
  ·have hg:=c59 hk hn 1025 1 0 b i rfl (by omega) (by omega) hi
   have hbl:=(Dv ((1+i/64:Nat):Int) hk hn).2
   have hstep:(J3 k nn 1 b).take i++[bits .u8 .xor (List.getD b i 0) (List.getD (G5 k ((1+i/64:Nat):Int) nn) (i%64) 0)]=(J3 k nn 1 b).take (i+1):=by
    rw [List.take_add_one]
    congr 1
    have:(J3 k nn 1 b).getD i 0=xr (b.getD i 0) ((G5 k ((1+i/64:Nat):Int) nn).getD (i%64) 0):=hg
    rw [List.getD,List.getElem?_eq_getElem (by omega)] at this
    rw [List.getElem?_eq_getElem (by omega)]
    simp only [Option.getD_some] at this
    rw [this];rfl
   have hol:o.length≤65536:=by rw [ho,List.length_take];omega
   have em:Int.tmod (i:Int) 64=((i%64:Nat):Int):=rfl
   have ed:Int.tdiv (i:Int) 64=((i/64:Nat):Int):=rfl
   rw [j7 (by simp<;>omega),if_pos ⟨by omega,by omega⟩]
   rw [em,ed]
   have ec:IntKind.wrap .u32 (1+IntKind.wrap .u32 (IntKind.wrap .i64 ((i/64:Nat):Int)))=((1+i/64:Nat):Int):=by
    rw [o8 (by omega) (by omega),Qg,Qg];omega
   rw [o8 (n:=(i:Int)+1) (by omega) (by omega),show (i:Int)+1=((i+1:Nat):Int) from rfl]
   by_cases h0:i%64=0
   ·rw [j7 (by rw [h0];rfl),m6,ec,c58 _ hk hn kb nb,Option.bind_some,Option.bind_some]
    dsimp only
    rw [if_pos ⟨by omega,by rw [hbl];omega⟩,m6,if_pos (by simp<;>omega),Option.bind_some]
    dsimp only
    rw [Int.toNat_natCast,Int.toNat_natCast,ho,hstep]
    exact Qh hk hn kb nb hb n (i+1) _ _ (by omega) (by omega) rfl (fun hne=>by rw [show (i+1)/64=i/64 by omega])
   ·have hyy:=hy h0
    rw [i0 (by simp<;>omega),Option.bind_some]
    dsimp only
    rw [hyy,if_pos ⟨by omega,by rw [hbl];omega⟩,m6,if_pos (by simp<;>omega),Option.bind_some]
    dsimp only
    rw [Int.toNat_natCast,Int.toNat_natCast,ho,hstep]
    exact Qh hk hn kb nb hb n (i+1) _ _ (by omega) (by omega) rfl (fun hne=>by rw [show (i+1)/64=i/64 by omega])
  ·have:i=b.length:=by omega
   rw [i0 (by simp<;>omega),ho,List.take_of_length_le (by omega)]
   exact ⟨_,rfl⟩
theorem i13 {k nn b:List Int} (hk:k.length=32) (hn:nn.length=12) (kb:Av k) (nb:Av nn) (hb:b.length≤65536):Mq k 1 nn b=some (J3 k nn 1 b):=by
 have hF:(1000000:Nat)<f9:=by decide
 obtain ⟨z,h⟩:=Qh hk hn kb nb hb f9 0 [] [] (by omega) (by rw [Nat.zero_add];exact Nat.lt_trans (Nat.lt_of_le_of_lt hb (by decide)) hF) (by simp) (by simp)
 rw [show ((0:Nat):Int)=0 from rfl] at h
 unfold Mq
 rw [h];rfl
end Go.Eng
namespace Go.Eng
set_option maxRecDepth 100000
set_option maxHeartbeats 1000000
theorem i92 {x y:Int} (hx:0≤x/\x<256) (hy:0≤y/\y<256):xr x y=0↔x=y:=by
 constructor
 ·intro h
  have h1:=h94 (x:=y) x hy
  have h2:xr y x=xr x y:=by unfold xr bits;simp only [BitVec.xor_comm]
  rw [h2,h] at h1
  have h3:=h94 (x:=x) x hx
  have h4:xr x x=0:=by unfold xr bits;simp only [BitVec.xor_self];rfl
  rw [h4] at h3
  omega
 ·rintro rfl
  unfold xr bits;simp only [BitVec.xor_self];rfl
def or8 (x y:Int):Int:=bits .u8 .or x y
theorem i93 (x y:Int):0≤or8 x y/\or8 x y<256:=by
 unfold or8 bits;simp only [Hj];omega
theorem i14 {x y:Int} (hx:0≤x/\x<256) (hy:0≤y/\y<256):or8 x y=0↔x=0/\y=0:=by
 obtain ⟨a,rfl⟩:=Int.eq_ofNat_of_zero_le hx.1
 obtain ⟨b,rfl⟩:=Int.eq_ofNat_of_zero_le hy.1
 have ha:a<256:=by omega
 have hb:b<256:=by omega
 unfold or8 bits
 simp only [Hj]
 have h8:IntKind.u8.bits=8:=rfl
 rw [h8,BitVec.ofInt_natCast,BitVec.ofInt_natCast,BitVec.toNat_or,BitVec.toNat_ofNat,BitVec.toNat_ofNat,Nat.mod_eq_of_lt (by omega),Nat.mod_eq_of_lt (by omega)]
 have hlt:a|||b<2^8:=Nat.or_lt_two_pow ha hb
 constructor
 ·intro h
  have h0:a|||b=0:=by omega
  have:=Nat.or_eq_zero_iff.1 h0
  omega
 ·rintro ⟨h1,h2⟩
  have h1:a=0:=by omega
  have h2:b=0:=by omega
  subst h1;subst h2;rfl
theorem e59 {a b:List Int} (ha:Av a) (hb:Av b) (hl:a.length=b.length) (hle:a.length≤1000000):∀ (n i:Nat) (c:Int),i≤a.length->a.length<i+n->(0≤c/\c<256) ->
  ∃ r,V2 a b n c (i:Int)=some r/\(r=0↔c=0/\a.drop i=b.drop i)
 |0,i,c,h1,h2,hc=>by omega
 |n+1,i,c,h1,h2,hc=>by
  rw [V2.eq_2]
  by_cases hlt:i<a.length
  ·rw [j7 (by simp<;>omega),if_pos ⟨by omega,by omega⟩,if_pos ⟨by omega,by omega⟩,m6,o8 (by omega) (by omega)]
   have e1:a.drop i=a.getD i 0::a.drop (i+1):=by
    rw [List.drop_eq_getElem_cons hlt];simp [List.getD,List.getElem?_eq_getElem hlt]
   have e2:b.drop i=b.getD i 0::b.drop (i+1):=by
    rw [List.drop_eq_getElem_cons (by omega)];simp [List.getD,List.getElem?_eq_getElem (show i<b.length by omega)]
   have hai:0≤a.getD i 0/\a.getD i 0<256:=ha _ (by simp [List.getD,List.getElem?_eq_getElem hlt])
   have hbi:0≤b.getD i 0/\b.getD i 0<256:=hb _ (by simp [List.getD,List.getElem?_eq_getElem (show i<b.length by omega)])
   obtain ⟨r,hr,hz⟩:=e59 ha hb hl hle n (i+1) (or8 c (xr (a.getD i 0) (b.getD i 0))) (by omega) (by omega) (i93 _ _)
   refine ⟨r,hr,hz.trans ?_⟩
   rw [i14 hc (h93 _ _),i92 hai hbi,e1,e2]
   constructor
   ·rintro ⟨⟨h1,h2⟩,h3⟩;exact ⟨h1,by rw [h2,h3]⟩
   ·rintro ⟨h1,h2⟩;injection h2 with h2 h3;exact ⟨⟨h1,h2⟩,h3⟩
  ·rw [i0 (by simp<;>omega)]
   refine ⟨c,rfl,?_⟩
   rw [List.drop_eq_nil_of_le (by omega),List.drop_eq_nil_of_le (by omega)]
   simp
theorem i15 {a b:List Int} (ha:Av a) (hb:Av b) (hle:a.length≤1000000):Gd a b=some (decide (a=b)):=by
 unfold Gd
 by_cases hl:a.length=b.length
 ·rw [i0 (by simp [hl])]
  obtain ⟨f,e,hf⟩:=Iw 1000001 (by decide)
  obtain ⟨r,hr,hz⟩:=e59 ha hb hl hle f9 0 0 (by omega) (by rw [e];omega) (by omega)
  rw [show ((0:Nat):Int)=0 from rfl] at hr
  rw [hr,Option.bind_some]
  congr 1
  rw [List.drop_zero,List.drop_zero] at hz
  by_cases hab:a=b
  ·rw [decide_eq_true hab,hz.2 ⟨rfl,hab⟩];rfl
  ·rw [decide_eq_false hab]
   have:r≠0:=fun h=>hab (hz.1 h).2
   simpa using this
 ·rw [j7 (by simp;omega),decide_eq_false fun h=>hl (by rw [h])]
def b46 (w t:List Int):List Int:=w++Q2 w++t++Q2 t++O8 w++O8 t
theorem g03 {w t:List Int}:(b46 w t).length≤w.length+t.length+46:=by
 unfold b46
 have h1:=(Fa (b:=w)).2
 have h2:=(Fa (b:=t)).2
 have h3:=(Ai w).2
 have h4:=(Ai t).2
 simp only [List.length_append];omega
def Jf (k n w t:List Int):List Int:=(Za (Ha k n) (b46 w t)).getD []
theorem Xa {k n w t:List Int} (hk:k.length=32) (hn:n.length=12) (hw:w.length≤16384) (ht:t.length≤16384):Za (Ha k n) (b46 w t)=some (Jf k n w t)/\(Jf k n w t).length=16/\Av (Jf k n w t):=by
 have:=g03 (w:=w) (t:=t)
 obtain ⟨g,h1,h2,h3⟩:=h98 (e38 hk hn) (m:=b46 w t) (by omega)
 unfold Jf
 rw [h1]
 exact ⟨rfl,h2,h3⟩
theorem tot {w t:List Int} (hw:w.length≤16384) (ht:t.length≤16384):w.length+(Q2 w).length+t.length+(Q2 t).length+(O8 w).length+(O8 t).length≤1000000:=by
 have h1:=(Fa (b:=w)).2
 have h2:=(Fa (b:=t)).2
 have h3:=(Ai w).2
 have h4:=(Ai t).2
 omega
theorem Ra {k n:List Int} (hk:k.length=32) (hn:n.length=12) {c:Int} {b:List Int} (hb:b.length≤65536):(J3 k n c b).length=b.length:=Ww hk hn _ _ _ (by omega)
theorem i94 {k n w p:List Int} (hk:k.length=32) (hn:n.length=12) (hw:w.length≤16384) (hp:p.length≤16384) :
  Da k n w p=some (.inl (J3 k n 1 p++Jf k n w (J3 k n 1 p))):=by
 have hl:=Ra hk hn (c:=1) (b:=p) (by omega)
 obtain ⟨h1,h2,h3⟩:=Xa hk hn hw (t:=J3 k n 1 p) (by omega)
 unfold Da
 rw [i0 (by simp [hn]),i0 (by simp<;>omega),i0 (by simp<;>omega),f90 hk hn 1 (by omega),Option.bind_some]
 dsimp only
 rw [g56 hk hn,Option.bind_some]
 dsimp only
 have hs:=j48 (Ha k n) w (Q2 w) (J3 k n 1 p) (Q2 (J3 k n 1 p)) (O8 w) (O8 (J3 k n 1 p)) (tot hw (by omega))
 rw [(Ai w).2,(Ai (J3 k n 1 p)).2] at hs
 rw [hs]
 show (Za (Ha k n) (b46 w (J3 k n 1 p))).bind _=_
 rw [h1,Option.bind_some,List.take_of_length_le (by omega),if_pos (by rw [hl,h2];omega)]
theorem g74 {k n w p:List Int} (hn:n.length=12) (h:16384<w.length\/16384<p.length):Da k n w p=some (.inr 3):=by
 unfold Da
 rw [i0 (by simp [hn])]
 by_cases hw:16384<w.length
 ·rw [j7 (by simp<;>omega)]
 ·rw [i0 (by simp<;>omega),j7 (by simp<;>omega)]
theorem d19 {k n w s:List Int} (hk:k.length=32) (hn:n.length=12) (hw:w.length≤16384) (hs:16≤s.length) (hs2:s.length≤16400) (hb:Av s) :
  L0 k n w s=some (if s.drop (s.length-16)=Jf k n w (s.take (s.length-16)) then .inl (J3 k n 1 (s.take (s.length-16))) else .inr 7):=by
 have e16:IntKind.wrap .i64 ((s.length:Int)-16)=((s.length-16:Nat):Int):=by rw [o8 (by omega) (by omega)];omega
 have htl:(s.take (s.length-16)).length=s.length-16:=by rw [List.length_take];omega
 obtain ⟨h1,h2,h3⟩:=Xa hk hn hw (t:=s.take (s.length-16)) (by omega)
 unfold L0
 simp only [m6,e16]
 have e0:((((s.length-16:Nat):Int)-0).toNat)=s.length-16:=by omega
 have e1:(((s.length:Int)-((s.length-16:Nat):Int)).toNat)=16:=by omega
 have e2:(((s.length-16:Nat):Int).toNat)=s.length-16:=by omega
 rw [e0,e1,e2]
 rw [i0 (by simp [hn]),i0 (by simp<;>omega),i0 (by simp<;>omega),i0 (by simp<;>omega),if_pos (by omega),if_pos (by omega),f91 hk hn,Option.bind_some]
 dsimp only
 rw [if_pos ⟨by omega,by omega⟩]
 have hd:List.take 16 (List.drop (s.length-16) s)=s.drop (s.length-16):=List.take_of_length_le (by rw [List.length_drop];omega)
 have hsum:=h99 (Ha k n) w (Q2 w) (s.take (s.length-16)) (Q2 (s.take (s.length-16))) (O8 w) (O8 (s.take (s.length-16))) (tot hw (by omega))
 rw [(Ai w).2,(Ai (s.take (s.length-16))).2] at hsum
 have hr:Bv (Ha k n) (s.drop (s.length-16)) w (Q2 w).length (s.take (s.length-16)) (Q2 (s.take (s.length-16))).length 8 8 (Q2 w) (Q2 (s.take (s.length-16))) (O8 w) (O8 (s.take (s.length-16)))=some (decide (s.drop (s.length-16)=Jf k n w (s.take (s.length-16)))):=by
  unfold Bv
  rw [hsum]
  show (Za (Ha k n) (b46 w (s.take (s.length-16)))).bind _=_
  rw [h1,Option.bind_some,List.take_of_length_le (by omega),i15 (fun y hy=>hb y (List.mem_of_mem_drop hy)) h3 (by rw [List.length_drop];omega)]
  rfl
 rw [hd,hr,Option.bind_some]
 by_cases ht:s.drop (s.length-16)=Jf k n w (s.take (s.length-16))
 ·rw [decide_eq_true ht,if_pos ht,i0 (by rfl),if_pos (by omega),if_pos (by omega),f90 hk hn 1 (by omega)]
  rfl
 ·rw [decide_eq_false ht,if_neg ht];rfl
end Go.Eng
set_option linter.unusedVariables false
set_option linter.unusedSimpArgs false
namespace Go.Eng
open Go.Proofs
set_option maxRecDepth 100000
set_option maxHeartbeats 1000000
theorem b47:∀ (j n:Nat) (x:List Int),j=(16-x.length%16)%16->j<n->x.length+j<1000000->Y4 n x=some (.inr (x++List.replicate j 0))
 |_,0,_,_,h,_=>absurd h (Nat.not_lt_zero _)
 |0,n+1,x,h,_,hl=>by
  have:x.length%16=0:=by omega
  have e:Int.tmod (x.length:Int) 16=((x.length%16:Nat):Int):=rfl
  rw [Y4.eq_2,e,this,i0 (by rfl)]
  simp
 |j+1,n+1,x,h,h',hl=>by
  have h0:x.length%16≠0:=by omega
  have e:Int.tmod (x.length:Int) 16=((x.length%16:Nat):Int):=rfl
  rw [Y4.eq_2,e,j7 (by simp<;>omega),if_pos (by simp<;>omega),b47 j n (x++[0]) (by simp only [List.length_append,List.length_cons,List.length_nil];omega) (by omega) (by simp only [List.length_append,List.length_cons,List.length_nil];omega)]
  rw [List.append_assoc,List.replicate_succ];rfl
theorem i17 (b:List Int) (h:b.length<1000000):Q2 b=List.replicate ((16-b.length%16)%16) 0:=by
 unfold Q2
 have e:Int.tmod (b.length:Int) 16=((b.length%16:Nat):Int):=rfl
 rw [e,o8 (by omega) (by omega),show (16:Int)-((b.length%16:Nat):Int)=((16-b.length%16:Nat):Int) by omega]
 have e2:Int.tmod ((16-b.length%16:Nat):Int) 16=(((16-b.length%16)%16:Nat):Int):=rfl
 rw [e2,Int.toNat_natCast]
theorem g04 {b:List Int} (h:b.length<900000):Ic b=some (b++Q2 b):=by
 unfold Ic
 have:=b47 _ f9 b rfl (Nat.lt_trans (Nat.mod_lt _ (by decide)) (show 16<f9 by decide)) (by omega)
 rw [List.nil_append,if_pos (by simp<;>omega),this,i17 b (by omega)];rfl
def Rf (x:Int):Int:=Int.fdiv x (2^8)
def Th (x:Int):Int:=IntKind.wrap .u64 (Int.tdiv x 256)
theorem Qi {x:Int} (h:0≤x) (h':x<18446744073709551616):Th x=Rf x/\0≤Rf x/\Rf x<18446744073709551616/\IntKind.wrap .u8 (Int.tmod x 256)=IntKind.wrap .u8 x:=by
 have e1:Rf x=x/256:=by unfold Rf;rw [Int.fdiv_eq_ediv_of_nonneg x (by decide)];rfl
 unfold Th
 rw [Int.tdiv_eq_ediv_of_nonneg h,Int.tmod_eq_emod_of_nonneg h,e1,b09,Hj,Hj]
 refine ⟨?_,?_,?_,?_⟩<;>omega
theorem i18 (x:Int):I3 x 8=some (.inl [IntKind.wrap .u8 x,IntKind.wrap .u8 (Rf x),IntKind.wrap .u8 (Rf (Rf x)),IntKind.wrap .u8 (Rf (Rf (Rf x))),IntKind.wrap .u8 (Rf (Rf (Rf (Rf x)))),IntKind.wrap .u8 (Rf (Rf (Rf (Rf (Rf x))))),IntKind.wrap .u8 (Rf (Rf (Rf (Rf (Rf (Rf x)))))),IntKind.wrap .u8 (Rf (Rf (Rf (Rf (Rf (Rf (Rf x))))))) ]):=by kernel_rfl
def tm8 (x:Int):Int:=IntKind.wrap .u8 (Int.tmod x 256)
theorem f32 (x:Int):Dd x 8=some [tm8 x,tm8 (Th x),tm8 (Th (Th x)),tm8 (Th (Th (Th x))),tm8 (Th (Th (Th (Th x)))),tm8 (Th (Th (Th (Th (Th x))))),tm8 (Th (Th (Th (Th (Th (Th x)))))),tm8 (Th (Th (Th (Th (Th (Th (Th x)))))))]:=by kernel_rfl
theorem c60 {b:List Int}:Dd (IntKind.wrap .u64 (b.length:Int)) 8=some (O8 b):=by
 unfold O8
 have h0:0≤IntKind.wrap .u64 (b.length:Int):=by rw [b09];omega
 have h0':IntKind.wrap .u64 (b.length:Int)<18446744073709551616:=by rw [b09];omega
 generalize IntKind.wrap .u64 (b.length:Int)=x at *
 obtain ⟨a1,b1,c1,d1⟩:=Qi h0 h0'
 obtain ⟨a2,b2,c2,d2⟩:=Qi b1 c1
 obtain ⟨a3,b3,c3,d3⟩:=Qi b2 c2
 obtain ⟨a4,b4,c4,d4⟩:=Qi b3 c3
 obtain ⟨a5,b5,c5,d5⟩:=Qi b4 c4
 obtain ⟨a6,b6,c6,d6⟩:=Qi b5 c5
 obtain ⟨a7,b7,c7,d7⟩:=Qi b6 c6
 obtain ⟨a8,b8,c8,d8⟩:=Qi b7 c7
 rw [f32,i18,a1,a2,a3,a4,a5,a6,a7]
 unfold tm8
 rw [d1,d2,d3,d4,d5,d6,d7,d8]
theorem l64 {α:Type} {l:List α} (h:l.length=64):∃ a b,l=a++b/\a.length=32/\b.length=32:=⟨l.take 32,l.drop 32,(List.take_append_drop 32 l).symm,by rw [List.length_take];omega,by rw [List.length_drop];omega⟩
theorem i19 {x:List Int} (h:x.length=64):Bh x f9 0 (List.replicate 32 0)=some (T9 (List.replicate 32 (0:Int)) 0 (List.take 32 (List.take (List.length x) x))):=by
 obtain ⟨a,b,rfl,ha,hb⟩:=l64 h
 obtain ⟨a0,a1,a2,a3,a4,a5,a6,a7,a8,a9,a10,a11,a12,a13,a14,a15,a16,a17,a18,a19,a20,a21,a22,a23,a24,a25,a26,a27,a28,a29,a30,a31,rfl⟩:=Ix ha
 obtain ⟨b0,b1,b2,b3,b4,b5,b6,b7,b8,b9,b10,b11,b12,b13,b14,b15,b16,b17,b18,b19,b20,b21,b22,b23,b24,b25,b26,b27,b28,b29,b30,b31,rfl⟩:=Ix hb
 kernel_rfl
theorem i96 {k n:List Int} (hk:k.length=32) (hn:n.length=12):Bh (G5 k 0 n) f9 0 (List.replicate 32 0)=some (Ha k n):=i19 (Dv 0 hk hn).2
end Go.Eng
namespace Go.Eng
set_option maxRecDepth 100000
set_option maxHeartbeats 1000000
theorem g75 {k n w p:List Int} (hk:k.length=32) (hn:n.length=12) (hw:w.length≤16384) (hp:p.length≤16384) (hb:Av p) :
  L0 k n w (J3 k n 1 p++Jf k n w (J3 k n 1 p))=some (.inl p):=by
 have hl:=Ra hk hn (c:=1) (b:=p) (by omega)
 obtain ⟨_,h2,h3⟩:=Xa hk hn hw (t:=J3 k n 1 p) (by omega)
 have hlen:(J3 k n 1 p++Jf k n w (J3 k n 1 p)).length=p.length+16:=by rw [List.length_append];omega
 have hbs:Av (J3 k n 1 p++Jf k n w (J3 k n 1 p)):=fun y hy=>by
  rcases List.mem_append.1 hy with hy|hy
  ·exact Wx _ _ _ y hy
  ·exact h3 y hy
 rw [d19 hk hn hw (by omega) (by omega) hbs,hlen,show p.length+16-16=(J3 k n 1 p).length from by omega,List.drop_left,List.take_left,if_pos rfl]
 unfold J3
 rw [Yd hk hn _ _ _ (by omega) hb]
theorem g76 {k n w s:List Int} (hn:n.length=12) (hw:w.length≤16384) (hs:16400<s.length) (hs2:s.length≤1000000):L0 k n w s=some (.inr 3):=by
 have e16:IntKind.wrap .i64 ((s.length:Int)-16)=((s.length-16:Nat):Int):=by rw [o8 (by omega) (by omega)];omega
 unfold L0
 simp only [m6,e16]
 rw [i0 (by simp [hn]),i0 (by simp<;>omega),i0 (by simp<;>omega),j7 (by simp<;>omega)]
end Go.Eng
set_option linter.unusedVariables false
set_option linter.unusedSimpArgs false
namespace Go.Eng
set_option maxRecDepth 100000
set_option maxHeartbeats 1000000
theorem i20 {l:List Int} (h:Av l):∃ m,l=zl m/\m.length=l.length/\Jd m:=by
 obtain ⟨m,h1,h2,h3⟩:=Wq (n:=256) (Nl h)
 exact ⟨m,h1,h2,h3⟩
theorem Rb {a b:List Int} (ha:Av a) (hb:Av b):Av (a++b):=fun y hy=>by
 rcases List.mem_append.1 hy with hy|hy
 ·exact ha y hy
 ·exact hb y hy
theorem i21 {k n:List Int} (hk:k.length=32) (hn:n.length=12):Ha k n=(G5 k 0 n).take 32:=by
 have h:=(Dv 0 hk hn).2
 unfold Ha T9
 rw [List.take_length,List.take_zero,List.nil_append,Nat.zero_add,List.length_take,h,List.drop_replicate]
 exact List.append_nil _
theorem i22 {k n:List Int} (hk:k.length=32) (hn:n.length=12) (kb:Av k) (nb:Av n):Av (Ha k n):=by
 rw [i21 hk hn]
 exact fun y hy=>g73 0 hk hn kb nb y (List.mem_of_mem_take hy)
theorem e60 (b:List Int):Av (Q2 b):=fun y hy=>by
 unfold Q2 at hy;rw [List.eq_of_mem_replicate hy];omega
theorem c61 (b:List Int):Av (O8 b):=fun y hy=>by
 have hw:∀ z:Int,0≤IntKind.wrap .u8 z/\IntKind.wrap .u8 z<256:=fun z=>by rw [Hj];omega
 unfold O8 at hy
 rw [i18] at hy
 simp only [List.mem_cons,List.not_mem_nil,or_false] at hy
 rcases hy with rfl|rfl|rfl|rfl|rfl|rfl|rfl|rfl<;>exact hw _
theorem i97 {w t:List Int} (hw:Av w) (ht:Av t):Av (b46 w t):=Rb (Rb (Rb (Rb (Rb hw (e60 w)) ht) (e60 t)) (c61 w)) (c61 t)
theorem i23 {k n w t:List Int} (hk:k.length=32) (hn:n.length=12) (kb:Av k) (nb:Av n) (wb:Av w) (tb:Av t) (hw:w.length≤16384) (ht:t.length≤16384):Mt k n w t=some (Jf k n w t):=by
 have hm:=g03 (w:=w) (t:=t)
 obtain ⟨kn,e1,l1,d1⟩:=i20 (i22 hk hn kb nb)
 obtain ⟨mn,e2,l2,d2⟩:=i20 (i97 wb tb)
 have hk1:kn.length=32:=by rw [l1];exact e38 hk hn
 have hmac:Jf k n w t=zl (i03 kn mn):=by
  unfold Jf
  rw [e1,e2,i88 hk1 d1 d2 (by omega)];rfl
 have hsum:Ms (Ha k n) (b46 w t)=some (Jf k n w t):=by
  rw [hmac,e1,e2];exact i84 hk1 d1 d2 (by omega)
 have f1:=(Fa (b:=w)).2
 have f2:=(Fa (b:=t)).2
 have g1:=(Ai w).2
 have g2:=(Ai t).2
 have hcat:((w++Q2 w)++(t++Q2 t))++O8 w++O8 t=b46 w t:=by
  unfold b46;simp only [List.append_assoc]
 unfold Mt
 rw [c58 0 hk hn kb nb,Option.bind_some,i96 hk hn,Option.bind_some,g04 (by omega),Option.bind_some,g04 (by omega),Option.bind_some,if_pos (by simp only [List.length_append];omega),c60,Option.bind_some,if_pos (by simp only [List.length_append];omega),c60,Option.bind_some,if_pos (by simp only [List.length_append];omega),hcat,hsum]
 rfl
theorem g77 (k n:List Int) (c:Int) (b:List Int):Av (J3 k n c b):=Wx _ _ _
theorem i98:∀ {a b:List Int},Av a->Av b->((List.map (fun q:Int=>UInt8.ofNat q.toNat) a==List.map (fun q:Int=>UInt8.ofNat q.toNat) b)=decide (a=b)):=by
 intro a b ha hb
 by_cases h:a=b
 ·subst h;simp
 ·rw [decide_eq_false h,beq_eq_false_iff_ne]
  intro e
  apply h
  clear h
  induction a generalizing b with
  |nil=>cases b with
   |nil=>rfl
   |cons y ys=>cases e
  |cons x xs ih =>
   cases b with
   |nil=>cases e
   |cons y ys =>
    have hx:=ha x (List.mem_cons_self ..)
    have hy:=hb y (List.mem_cons_self ..)
    simp only [List.map_cons,List.cons.injEq] at e
    have:=congrArg UInt8.toNat e.1
    rw [UInt8.toNat_ofNat',UInt8.toNat_ofNat'] at this
    have hxy:x=y:=by omega
    rw [hxy,ih (fun z hz=>ha z (List.mem_cons_of_mem _ hz)) (fun z hz=>hb z (List.mem_cons_of_mem _ hz)) e.2]
theorem i24 {k n w s:List Int} (hk:k.length=32) (hn:n.length=12) (kb:Av k) (nb:Av n) (wb:Av w) (sb:Av s) (hw:w.length≤16384) (hs:16≤s.length) (hs2:s.length≤16400) :
  Z2 k n w s=some (if s.drop (s.length-16)=Jf k n w (s.take (s.length-16)) then (0,J3 k n 1 (s.take (s.length-16))) else (7,[])):=by
 have e16:IntKind.wrap .i64 ((s.length:Int)-16)=((s.length-16:Nat):Int):=by rw [o8 (by omega) (by omega)];omega
 have htl:(s.take (s.length-16)).length=s.length-16:=by rw [List.length_take];omega
 have tb:Av (s.take (s.length-16)):=fun y hy=>sb y (List.mem_of_mem_take hy)
 obtain ⟨h1,h2,h3⟩:=Xa hk hn hw (t:=s.take (s.length-16)) (by omega)
 have e0:((((s.length-16:Nat):Int)-0).toNat)=s.length-16:=by omega
 have e1:(((s.length:Int)-((s.length-16:Nat):Int)).toNat)=16:=by omega
 have hd:List.take 16 (List.drop (s.length-16) s)=s.drop (s.length-16):=List.take_of_length_le (by rw [List.length_drop];omega)
 unfold Z2
 rw [e16,i0 (by simp [hn]),i0 (by simp<;>omega),i0 (by simp<;>omega),i0 (by simp<;>omega),if_pos (by omega),if_pos (by omega),m6,e0,i23 hk hn kb nb wb tb hw (by omega),Option.bind_some,m6,if_pos ⟨by omega,by omega⟩,m6,e1,Int.toNat_natCast,hd,List.take_of_length_le (by omega),i98 h3 (fun y hy=>sb y (List.mem_of_mem_drop hy)),m6]
 by_cases ht:s.drop (s.length-16)=Jf k n w (s.take (s.length-16))
 ·rw [if_pos ht,decide_eq_true ht.symm,i0 (by rfl),if_pos (by omega),if_pos (by omega),m6,i13 hk hn kb nb (by omega)];rfl
 ·rw [if_neg ht,decide_eq_false (fun e=>ht e.symm)];rfl
end Go.Eng
